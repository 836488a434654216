/-
  A part of a law's proof.
-/
import Derived.Test.YtccimdfmddomaaaDoorAEnvC
namespace Go.Proofs.YtccimdfmddomaaaDoor.AbsA
open Go AbsYtccimdfmddomaaaDoor Abs
set_option maxRecDepth 100000
set_option maxHeartbeats 4000000
/-- gosem.cut.init -/
theorem call2 {args : List Value} {σ : AHeap} {Q : Value → AHeap → Prop} (hl : args.length ≤ 1) (h : CodeS E B (strip [] (bodyOf Tryd.f2)) (L 1 (ofL args)) σ (outS E [] (downS Q))) : CallS E B 2 args σ Q :=
  S_callK hB [] rfl rfl rfl (by kernel_rfl) rfl rfl (by kernel_rfl) hl h
/-- towncrier/towncrierlaw43.ScriptBack -/
theorem call3 {args : List Value} {σ : AHeap} {Q : Value → AHeap → Prop} (hl : args.length ≤ 88) (h : CodeS E B (strip [] (bodyOf Tryd.f3)) (L 88 (ofL args)) σ (outS E [.tmp 6] (downS Q))) : CallS E B 3 args σ Q :=
  S_callK hB [] rfl rfl rfl (by kernel_rfl) rfl rfl (by kernel_rfl) hl h
/-- towncrier/towncrierlaw07.FrameFirst -/
theorem call4 {args : List Value} {σ : AHeap} {Q : Value → AHeap → Prop} (hl : args.length ≤ 46) (h : CodeS E B (strip [5] (bodyOf Tryd.f4)) (L 46 (ofL args)) σ (outS E [.tmp 4] (downS Q))) : CallS E B 4 args σ Q :=
  S_callK hB [5] rfl rfl rfl (by kernel_rfl) rfl rfl (by kernel_rfl) hl h
/-- towncrier/towncrierlaw07.FrameSplits -/
theorem call5 {args : List Value} {σ : AHeap} {Q : Value → AHeap → Prop} (hl : args.length ≤ 103) (h : CodeS E B (strip [] (bodyOf Tryd.f5)) (L 103 (ofL args)) σ (outS E [.tmp 4] (downS Q))) : CallS E B 5 args σ Q :=
  S_callK hB [] rfl rfl rfl (by kernel_rfl) rfl rfl (by kernel_rfl) hl h
/-- towncrier/towncrierlaw07.FrameBack -/
theorem call6 {args : List Value} {σ : AHeap} {Q : Value → AHeap → Prop} (hl : args.length ≤ 102) (h : CodeS E B (strip [] (bodyOf Tryd.f6)) (L 102 (ofL args)) σ (outS E [.tmp 4] (downS Q))) : CallS E B 6 args σ Q :=
  S_callK hB [] rfl rfl rfl (by kernel_rfl) rfl rfl (by kernel_rfl) hl h
/-- towncrier/towncrierlaw43.ScriptTakes -/
theorem call7 {args : List Value} {σ : AHeap} {Q : Value → AHeap → Prop} (hl : args.length ≤ 41) (h : CodeS E B (strip [] (bodyOf Tryd.f7)) (L 41 (ofL args)) σ (outS E [.tmp 2] (downS Q))) : CallS E B 7 args σ Q :=
  S_callK hB [] rfl rfl rfl (by kernel_rfl) rfl rfl (by kernel_rfl) hl h
/-- towncrier/towncrierlaw04.FieldBack -/
theorem call8 {args : List Value} {σ : AHeap} {Q : Value → AHeap → Prop} (hl : args.length ≤ 156) (h : CodeS E B (strip [] (bodyOf Tryd.f8)) (L 156 (ofL args)) σ (outS E [.tmp 4] (downS Q))) : CallS E B 8 args σ Q :=
  S_callK hB [] rfl rfl rfl (by kernel_rfl) rfl rfl (by kernel_rfl) hl h
/-- towncrier/towncrierlaw06.PropBack -/
theorem call9 {args : List Value} {σ : AHeap} {Q : Value → AHeap → Prop} (hl : args.length ≤ 96) (h : CodeS E B (strip [] (bodyOf Tryd.f9)) (L 96 (ofL args)) σ (outS E [.tmp 6] (downS Q))) : CallS E B 9 args σ Q :=
  S_callK hB [] rfl rfl rfl (by kernel_rfl) rfl rfl (by kernel_rfl) hl h
/-- towncrier/towncrierlaw34.StorePrefix -/
theorem call10 {args : List Value} {σ : AHeap} {Q : Value → AHeap → Prop} (hl : args.length ≤ 179) (h : CodeS E B (strip [] (bodyOf Tryd.f10)) (L 179 (ofL args)) σ (outS E [.tmp 4] (downS Q))) : CallS E B 10 args σ Q :=
  S_callK hB [] rfl rfl rfl (by kernel_rfl) rfl rfl (by kernel_rfl) hl h
/-- towncrier/towncrierref39.FewEvents -/
theorem call11 {args : List Value} {σ : AHeap} {Q : Value → AHeap → Prop} (hl : args.length ≤ 28) (h : CodeS E B (strip [] (bodyOf Tryd.f11)) (L 28 (ofL args)) σ (outS E [.tmp 4] (downS Q))) : CallS E B 11 args σ Q :=
  S_callK hB [] rfl rfl rfl (by kernel_rfl) rfl rfl (by kernel_rfl) hl h
/-- towncrier/script.Put -/
theorem call13 {args : List Value} {σ : AHeap} {Q : Value → AHeap → Prop} (hl : args.length ≤ 76) (h : CodeS E B (strip [] (bodyOf Tryd.f13)) (L 76 (ofL args)) σ (outS E [.tmp 4, .tmp 5] (downS Q))) : CallS E B 13 args σ Q :=
  S_callK hB [] rfl rfl rfl (by kernel_rfl) rfl rfl (by kernel_rfl) hl h
/-- towncrier/script.Take -/
theorem call14 {args : List Value} {σ : AHeap} {Q : Value → AHeap → Prop} (hl : args.length ≤ 34) (h : CodeS E B (strip [] (bodyOf Tryd.f14)) (L 34 (ofL args)) σ (outS E [.cell 2 23, .tmp 3, .tmp 4] (downS Q))) : CallS E B 14 args σ Q :=
  S_callK hB [] rfl rfl rfl (by kernel_rfl) rfl rfl (by kernel_rfl) hl h
/-- towncrier/towncrierref43.Same -/
theorem call15 {args : List Value} {σ : AHeap} {Q : Value → AHeap → Prop} (hl : args.length ≤ 32) (h : CodeS E B (strip [] (bodyOf Tryd.f15)) (L 32 (ofL args)) σ (outS E [.tmp 4] (downS Q))) : CallS E B 15 args σ Q :=
  S_callK hB [] rfl rfl rfl (by kernel_rfl) rfl rfl (by kernel_rfl) hl h
/-- towncrier/frame.Put -/
theorem call17 {args : List Value} {σ : AHeap} {Q : Value → AHeap → Prop} (hl : args.length ≤ 34) (h : CodeS E B (strip [] (bodyOf Tryd.f17)) (L 34 (ofL args)) σ (outS E [.tmp 2, .tmp 3] (downS Q))) : CallS E B 17 args σ Q :=
  S_callK hB [] rfl rfl rfl (by kernel_rfl) rfl rfl (by kernel_rfl) hl h
/-- towncrier/towncrierref07.Put -/
theorem call18 {args : List Value} {σ : AHeap} {Q : Value → AHeap → Prop} (hl : args.length ≤ 32) (h : CodeS E B (strip [] (bodyOf Tryd.f18)) (L 32 (ofL args)) σ (outS E [.tmp 2, .cell 3 40] (downS Q))) : CallS E B 18 args σ Q :=
  S_callK hB [] rfl rfl rfl (by kernel_rfl) rfl rfl (by kernel_rfl) hl h
/-- towncrier/towncrierlaw07.same -/
theorem call19 {args : List Value} {σ : AHeap} {Q : Value → AHeap → Prop} (hl : args.length ≤ 29) (h : CodeS E B (strip [1] (bodyOf Tryd.f19)) (L 29 (ofL args)) σ (outS E [.tmp 4] (downS Q))) : CallS E B 19 args σ Q :=
  S_callK hB [1] rfl rfl rfl (by kernel_rfl) rfl rfl (by kernel_rfl) hl h
/-- towncrier/frame.Check -/
theorem call20 {args : List Value} {σ : AHeap} {Q : Value → AHeap → Prop} (hl : args.length ≤ 11) (h : CodeS E B (strip [] (bodyOf Tryd.f20)) (L 11 (ofL args)) σ (outS E [.tmp 2] (downS Q))) : CallS E B 20 args σ Q :=
  S_callK hB [] rfl rfl rfl (by kernel_rfl) rfl rfl (by kernel_rfl) hl h
/-- towncrier/towncrierref07.May -/
theorem call21 {args : List Value} {σ : AHeap} {Q : Value → AHeap → Prop} (hl : args.length ≤ 39) (h : CodeS E B (strip [] (bodyOf Tryd.f21)) (L 39 (ofL args)) σ (outS E [.tmp 2] (downS Q))) : CallS E B 21 args σ Q :=
  S_callK hB [] rfl rfl rfl (by kernel_rfl) rfl rfl (by kernel_rfl) hl h
/-- towncrier/towncrierref07.Few -/
theorem call22 {args : List Value} {σ : AHeap} {Q : Value → AHeap → Prop} (hl : args.length ≤ 23) (h : CodeS E B (strip [] (bodyOf Tryd.f22)) (L 23 (ofL args)) σ (outS E [.tmp 2] (downS Q))) : CallS E B 22 args σ Q :=
  S_callK hB [] rfl rfl rfl (by kernel_rfl) rfl rfl (by kernel_rfl) hl h
/-- towncrier/frame.New -/
theorem call23 {args : List Value} {σ : AHeap} {Q : Value → AHeap → Prop} (hl : args.length ≤ 6) (h : CodeS E B (strip [] (bodyOf Tryd.f23)) (L 6 (ofL args)) σ (outS E [.tmp 2] (downS Q))) : CallS E B 23 args σ Q :=
  S_callK hB [] rfl rfl rfl (by kernel_rfl) rfl rfl (by kernel_rfl) hl h
/-- (*towncrier/frame.Splitter).Feed -/
theorem call24 {args : List Value} {σ : AHeap} {Q : Value → AHeap → Prop} (hl : args.length ≤ 14) (h : CodeS E B (strip [] (bodyOf Tryd.f24)) (L 14 (ofL args)) σ (outS E [] (downS Q))) : CallS E B 24 args σ Q :=
  S_callK hB [] rfl rfl rfl (by kernel_rfl) rfl rfl (by kernel_rfl) hl h
/-- towncrier/towncrierlaw07.drain -/
theorem call25 {args : List Value} {σ : AHeap} {Q : Value → AHeap → Prop} (hl : args.length ≤ 34) (h : CodeS E B (strip [] (bodyOf Tryd.f25)) (L 34 (ofL args)) σ (outS E [.tmp 2, .tmp 3, .tmp 4] (downS Q))) : CallS E B 25 args σ Q :=
  S_callK hB [] rfl rfl rfl (by kernel_rfl) rfl rfl (by kernel_rfl) hl h
/-- towncrier/towncrierref07.All -/
theorem call26 {args : List Value} {σ : AHeap} {Q : Value → AHeap → Prop} (hl : args.length ≤ 91) (h : CodeS E B (strip [] (bodyOf Tryd.f26)) (L 91 (ofL args)) σ (outS E [.tmp 4, .cell 5 40, .tmp 6] (downS Q))) : CallS E B 26 args σ Q :=
  S_callK hB [] rfl rfl rfl (by kernel_rfl) rfl rfl (by kernel_rfl) hl h
/-- towncrier/towncrierref07.Same -/
theorem call27 {args : List Value} {σ : AHeap} {Q : Value → AHeap → Prop} (hl : args.length ≤ 32) (h : CodeS E B (strip [] (bodyOf Tryd.f27)) (L 32 (ofL args)) σ (outS E [.tmp 4] (downS Q))) : CallS E B 27 args σ Q :=
  S_callK hB [] rfl rfl rfl (by kernel_rfl) rfl rfl (by kernel_rfl) hl h
/-- (*towncrier/frame.Splitter).Left -/
theorem call28 {args : List Value} {σ : AHeap} {Q : Value → AHeap → Prop} (hl : args.length ≤ 10) (h : CodeS E B (strip [] (bodyOf Tryd.f28)) (L 10 (ofL args)) σ (outS E [.tmp 2] (downS Q))) : CallS E B 28 args σ Q :=
  S_callK hB [] rfl rfl rfl (by kernel_rfl) rfl rfl (by kernel_rfl) hl h
/-- (*towncrier/frame.Splitter).Next -/
theorem call29 {args : List Value} {σ : AHeap} {Q : Value → AHeap → Prop} (hl : args.length ≤ 94) (h : CodeS E B (strip [6, 10] (bodyOf Tryd.f29)) (L 94 (ofL args)) σ (outS E [.cell 2 37, .tmp 3, .tmp 4] (downS Q))) : CallS E B 29 args σ Q :=
  S_callK hB [6, 10] rfl rfl rfl (by kernel_rfl) rfl rfl (by kernel_rfl) hl h
/-- towncrier/towncrierref43.Take -/
theorem call30 {args : List Value} {σ : AHeap} {Q : Value → AHeap → Prop} (hl : args.length ≤ 117) (h : CodeS E B (strip [10, 33] (bodyOf Tryd.f30)) (L 117 (ofL args)) σ (outS E [.cell 2 23, .tmp 3, .cell 4 40] (downS Q))) : CallS E B 30 args σ Q :=
  S_callK hB [10, 33] rfl rfl rfl (by kernel_rfl) rfl rfl (by kernel_rfl) hl h
/-- towncrier/towncrierlaw43.same -/
theorem call31 {args : List Value} {σ : AHeap} {Q : Value → AHeap → Prop} (hl : args.length ≤ 29) (h : CodeS E B (strip [1] (bodyOf Tryd.f31)) (L 29 (ofL args)) σ (outS E [.tmp 4] (downS Q))) : CallS E B 31 args σ Q :=
  S_callK hB [1] rfl rfl rfl (by kernel_rfl) rfl rfl (by kernel_rfl) hl h
/-- towncrier/towncrierref04.Few -/
theorem call32 {args : List Value} {σ : AHeap} {Q : Value → AHeap → Prop} (hl : args.length ≤ 24) (h : CodeS E B (strip [] (bodyOf Tryd.f32)) (L 24 (ofL args)) σ (outS E [.tmp 2] (downS Q))) : CallS E B 32 args σ Q :=
  S_callK hB [] rfl rfl rfl (by kernel_rfl) rfl rfl (by kernel_rfl) hl h
/-- towncrier/towncrierlaw04.write -/
theorem call34 {args : List Value} {σ : AHeap} {Q : Value → AHeap → Prop} (hl : args.length ≤ 48) (h : CodeS E B (strip [] (bodyOf Tryd.f34)) (L 48 (ofL args)) σ (outS E [] (downS Q))) : CallS E B 34 args σ Q :=
  S_callK hB [] rfl rfl rfl (by kernel_rfl) rfl rfl (by kernel_rfl) hl h
/-- (*towncrier/field.Writer).Bytes -/
theorem call35 {args : List Value} {σ : AHeap} {Q : Value → AHeap → Prop} (hl : args.length ≤ 20) (h : CodeS E B (strip [] (bodyOf Tryd.f35)) (L 20 (ofL args)) σ (outS E [.tmp 2, .tmp 3] (downS Q))) : CallS E B 35 args σ Q :=
  S_callK hB [] rfl rfl rfl (by kernel_rfl) rfl rfl (by kernel_rfl) hl h
/-- towncrier/field.New -/
theorem call36 {args : List Value} {σ : AHeap} {Q : Value → AHeap → Prop} (hl : args.length ≤ 6) (h : CodeS E B (strip [] (bodyOf Tryd.f36)) (L 6 (ofL args)) σ (outS E [.tmp 2] (downS Q))) : CallS E B 36 args σ Q :=
  S_callK hB [] rfl rfl rfl (by kernel_rfl) rfl rfl (by kernel_rfl) hl h
/-- towncrier/towncrierlaw04.read -/
theorem call37 {args : List Value} {σ : AHeap} {Q : Value → AHeap → Prop} (hl : args.length ≤ 40) (h : CodeS E B (strip [] (bodyOf Tryd.f37)) (L 40 (ofL args)) σ (outS E [.tmp 4, .tmp 5] (downS Q))) : CallS E B 37 args σ Q :=
  S_callK hB [] rfl rfl rfl (by kernel_rfl) rfl rfl (by kernel_rfl) hl h
/-- (*towncrier/field.Reader).Done -/
theorem call38 {args : List Value} {σ : AHeap} {Q : Value → AHeap → Prop} (hl : args.length ≤ 19) (h : CodeS E B (strip [] (bodyOf Tryd.f38)) (L 19 (ofL args)) σ (outS E [.tmp 2] (downS Q))) : CallS E B 38 args σ Q :=
  S_callK hB [] rfl rfl rfl (by kernel_rfl) rfl rfl (by kernel_rfl) hl h
/-- (*towncrier/field.Reader).Left -/
theorem call39 {args : List Value} {σ : AHeap} {Q : Value → AHeap → Prop} (hl : args.length ≤ 15) (h : CodeS E B (strip [] (bodyOf Tryd.f39)) (L 15 (ofL args)) σ (outS E [.tmp 2] (downS Q))) : CallS E B 39 args σ Q :=
  S_callK hB [] rfl rfl rfl (by kernel_rfl) rfl rfl (by kernel_rfl) hl h
/-- towncrier/fault.Number -/
theorem call40 {args : List Value} {σ : AHeap} {Q : Value → AHeap → Prop} (hl : args.length ≤ 27) (h : CodeS E B (strip [] (bodyOf Tryd.f40)) (L 27 (ofL args)) σ (outS E [.tmp 2] (downS Q))) : CallS E B 40 args σ Q :=
  S_callK hB [] rfl rfl rfl (by kernel_rfl) rfl rfl (by kernel_rfl) hl h
/-- towncrier/fault.Number -/
theorem wcall40 {args : List Value} {H : AHeap} {Q : Value → AHeap → Prop} (hl : args.length ≤ 27) (h : CodeW E (strip [] (bodyOf Tryd.f40)) (L 27 (ofL args))  H (retQ E [.tmp 2] Q)) : CallW E 40 args H Q :=
  W_callK [] rfl rfl rfl (by kernel_rfl) rfl rfl (by kernel_rfl) hl h
/-- (*towncrier/field.Reader).Err -/
theorem call41 {args : List Value} {σ : AHeap} {Q : Value → AHeap → Prop} (hl : args.length ≤ 9) (h : CodeS E B (strip [] (bodyOf Tryd.f41)) (L 9 (ofL args)) σ (outS E [.tmp 2] (downS Q))) : CallS E B 41 args σ Q :=
  S_callK hB [] rfl rfl rfl (by kernel_rfl) rfl rfl (by kernel_rfl) hl h
/-- towncrier/towncrierref06.Few -/
theorem call42 {args : List Value} {σ : AHeap} {Q : Value → AHeap → Prop} (hl : args.length ≤ 33) (h : CodeS E B (strip [] (bodyOf Tryd.f42)) (L 33 (ofL args)) σ (outS E [.tmp 2] (downS Q))) : CallS E B 42 args σ Q :=
  S_callK hB [] rfl rfl rfl (by kernel_rfl) rfl rfl (by kernel_rfl) hl h
/-- towncrier/prop.Read -/
theorem call44 {args : List Value} {σ : AHeap} {Q : Value → AHeap → Prop} (hl : args.length ≤ 49) (h : CodeS E B (strip [] (bodyOf Tryd.f44)) (L 49 (ofL args)) σ (outS E [.tmp 4, .tmp 5] (downS Q))) : CallS E B 44 args σ Q :=
  S_callK hB [] rfl rfl rfl (by kernel_rfl) rfl rfl (by kernel_rfl) hl h
/-- towncrier/prop.Check -/
theorem call45 {args : List Value} {σ : AHeap} {Q : Value → AHeap → Prop} (hl : args.length ≤ 34) (h : CodeS E B (strip [] (bodyOf Tryd.f45)) (L 34 (ofL args)) σ (outS E [.tmp 4] (downS Q))) : CallS E B 45 args σ Q :=
  S_callK hB [] rfl rfl rfl (by kernel_rfl) rfl rfl (by kernel_rfl) hl h
/-- towncrier/prop.Encode -/
theorem call46 {args : List Value} {σ : AHeap} {Q : Value → AHeap → Prop} (hl : args.length ≤ 52) (h : CodeS E B (strip [] (bodyOf Tryd.f46)) (L 52 (ofL args)) σ (outS E [.tmp 4, .tmp 5] (downS Q))) : CallS E B 46 args σ Q :=
  S_callK hB [] rfl rfl rfl (by kernel_rfl) rfl rfl (by kernel_rfl) hl h
/-- towncrier/towncrierref06.Plain -/
theorem call47 {args : List Value} {σ : AHeap} {Q : Value → AHeap → Prop} (hl : args.length ≤ 63) (h : CodeS E B (strip [] (bodyOf Tryd.f47)) (L 63 (ofL args)) σ (outS E [.tmp 2] (downS Q))) : CallS E B 47 args σ Q :=
  S_callK hB [] rfl rfl rfl (by kernel_rfl) rfl rfl (by kernel_rfl) hl h
/-- towncrier/towncrierref06.Same -/
theorem call48 {args : List Value} {σ : AHeap} {Q : Value → AHeap → Prop} (hl : args.length ≤ 32) (h : CodeS E B (strip [] (bodyOf Tryd.f48)) (L 32 (ofL args)) σ (outS E [.tmp 4] (downS Q))) : CallS E B 48 args σ Q :=
  S_callK hB [] rfl rfl rfl (by kernel_rfl) rfl rfl (by kernel_rfl) hl h
/-- (*towncrier/field.Reader).At -/
theorem call49 {args : List Value} {σ : AHeap} {Q : Value → AHeap → Prop} (hl : args.length ≤ 9) (h : CodeS E B (strip [] (bodyOf Tryd.f49)) (L 9 (ofL args)) σ (outS E [.tmp 2] (downS Q))) : CallS E B 49 args σ Q :=
  S_callK hB [] rfl rfl rfl (by kernel_rfl) rfl rfl (by kernel_rfl) hl h
/-- towncrier/towncrierlaw34.awake -/
theorem call50 {args : List Value} {σ : AHeap} {Q : Value → AHeap → Prop} (hl : args.length ≤ 84) (h : CodeS E B (strip [] (bodyOf Tryd.f50)) (L 84 (ofL args)) σ (outS E [.tmp 0] (downS Q))) : CallS E B 50 args σ Q :=
  S_callK hB [] rfl rfl rfl (by kernel_rfl) rfl rfl (by kernel_rfl) hl h
/-- towncrier/store.Replay -/
theorem call51 {args : List Value} {σ : AHeap} {Q : Value → AHeap → Prop} (hl : args.length ≤ 60) (h : CodeS E B (strip [] (bodyOf Tryd.f51)) (L 60 (ofL args)) σ (outS E [.tmp 2, .tmp 3] (downS Q))) : CallS E B 51 args σ Q :=
  S_callK hB [] rfl rfl rfl (by kernel_rfl) rfl rfl (by kernel_rfl) hl h
/-- towncrier/towncrierref22.Begins -/
theorem call52 {args : List Value} {σ : AHeap} {Q : Value → AHeap → Prop} (hl : args.length ≤ 32) (h : CodeS E B (strip [] (bodyOf Tryd.f52)) (L 32 (ofL args)) σ (outS E [.tmp 4] (downS Q))) : CallS E B 52 args σ Q :=
  S_callK hB [] rfl rfl rfl (by kernel_rfl) rfl rfl (by kernel_rfl) hl h
/-- towncrier/store.Take -/
theorem call53 {args : List Value} {σ : AHeap} {Q : Value → AHeap → Prop} (hl : args.length ≤ 60) (h : CodeS E B (strip [] (bodyOf Tryd.f53)) (L 60 (ofL args)) σ (outS E [.cell 2 99, .tmp 3] (downS Q))) : CallS E B 53 args σ Q :=
  S_callK hB [] rfl rfl rfl (by kernel_rfl) rfl rfl (by kernel_rfl) hl h
/-- towncrier/terms.Check -/
theorem call55 {args : List Value} {σ : AHeap} {Q : Value → AHeap → Prop} (hl : args.length ≤ 29) (h : CodeS E B (strip [] (bodyOf Tryd.f55)) (L 29 (ofL args)) σ (outS E [.tmp 2] (downS Q))) : CallS E B 55 args σ Q :=
  S_callK hB [] rfl rfl rfl (by kernel_rfl) rfl rfl (by kernel_rfl) hl h
/-- towncrier/fault.New -/
theorem call56 {args : List Value} {σ : AHeap} {Q : Value → AHeap → Prop} (hl : args.length ≤ 15) (h : CodeS E B (strip [] (bodyOf Tryd.f56)) (L 15 (ofL args)) σ (outS E [.tmp 6] (downS Q))) : CallS E B 56 args σ Q :=
  S_callK hB [] rfl rfl rfl (by kernel_rfl) rfl rfl (by kernel_rfl) hl h
/-- towncrier/fault.New -/
theorem wcall56 {args : List Value} {H : AHeap} {Q : Value → AHeap → Prop} (hl : args.length ≤ 15) (h : CodeW E (strip [] (bodyOf Tryd.f56)) (L 15 (ofL args))  H (retQ E [.tmp 6] Q)) : CallW E 56 args H Q :=
  W_callK [] rfl rfl rfl (by kernel_rfl) rfl rfl (by kernel_rfl) hl h
/-- (*towncrier/field.Writer).Raw -/
theorem call57 {args : List Value} {σ : AHeap} {Q : Value → AHeap → Prop} (hl : args.length ≤ 16) (h : CodeS E B (strip [] (bodyOf Tryd.f57)) (L 16 (ofL args)) σ (outS E [] (downS Q))) : CallS E B 57 args σ Q :=
  S_callK hB [] rfl rfl rfl (by kernel_rfl) rfl rfl (by kernel_rfl) hl h
/-- towncrier/script.bounds -/
theorem call58 {args : List Value} {σ : AHeap} {Q : Value → AHeap → Prop} (hl : args.length ≤ 30) (h : CodeS E B (strip [] (bodyOf Tryd.f58)) (L 30 (ofL args)) σ (outS E [.tmp 2] (downS Q))) : CallS E B 58 args σ Q :=
  S_callK hB [] rfl rfl rfl (by kernel_rfl) rfl rfl (by kernel_rfl) hl h
/-- (*towncrier/field.Writer).U32 -/
theorem call59 {args : List Value} {σ : AHeap} {Q : Value → AHeap → Prop} (hl : args.length ≤ 7) (h : CodeS E B (strip [] (bodyOf Tryd.f59)) (L 7 (ofL args)) σ (outS E [] (downS Q))) : CallS E B 59 args σ Q :=
  S_callK hB [] rfl rfl rfl (by kernel_rfl) rfl rfl (by kernel_rfl) hl h
/-- (*towncrier/field.Writer).U16 -/
theorem call60 {args : List Value} {σ : AHeap} {Q : Value → AHeap → Prop} (hl : args.length ≤ 7) (h : CodeS E B (strip [] (bodyOf Tryd.f60)) (L 7 (ofL args)) σ (outS E [] (downS Q))) : CallS E B 60 args σ Q :=
  S_callK hB [] rfl rfl rfl (by kernel_rfl) rfl rfl (by kernel_rfl) hl h
/-- towncrier/script.may -/
theorem call61 {args : List Value} {σ : AHeap} {Q : Value → AHeap → Prop} (hl : args.length ≤ 9) (h : CodeS E B (strip [] (bodyOf Tryd.f61)) (L 9 (ofL args)) σ (outS E [.tmp 2] (downS Q))) : CallS E B 61 args σ Q :=
  S_callK hB [] rfl rfl rfl (by kernel_rfl) rfl rfl (by kernel_rfl) hl h
/-- (*towncrier/field.Writer).U8 -/
theorem call62 {args : List Value} {σ : AHeap} {Q : Value → AHeap → Prop} (hl : args.length ≤ 7) (h : CodeS E B (strip [] (bodyOf Tryd.f62)) (L 7 (ofL args)) σ (outS E [] (downS Q))) : CallS E B 62 args σ Q :=
  S_callK hB [] rfl rfl rfl (by kernel_rfl) rfl rfl (by kernel_rfl) hl h
/-- (*towncrier/field.Writer).Bin -/
theorem call63 {args : List Value} {σ : AHeap} {Q : Value → AHeap → Prop} (hl : args.length ≤ 11) (h : CodeS E B (strip [] (bodyOf Tryd.f63)) (L 11 (ofL args)) σ (outS E [] (downS Q))) : CallS E B 63 args σ Q :=
  S_callK hB [] rfl rfl rfl (by kernel_rfl) rfl rfl (by kernel_rfl) hl h
/-- towncrier/script.head -/
theorem call64 {args : List Value} {σ : AHeap} {Q : Value → AHeap → Prop} (hl : args.length ≤ 45) (h : CodeS E B (strip [10, 11] (bodyOf Tryd.f64)) (L 45 (ofL args)) σ (outS E [.cell 2 23, .tmp 3, .tmp 4] (downS Q))) : CallS E B 64 args σ Q :=
  S_callK hB [10, 11] rfl rfl rfl (by kernel_rfl) rfl rfl (by kernel_rfl) hl h
/-- towncrier/script.events -/
theorem call65 {args : List Value} {σ : AHeap} {Q : Value → AHeap → Prop} (hl : args.length ≤ 28) (h : CodeS E B (strip [] (bodyOf Tryd.f65)) (L 28 (ofL args)) σ (outS E [.tmp 4, .tmp 5] (downS Q))) : CallS E B 65 args σ Q :=
  S_callK hB [] rfl rfl rfl (by kernel_rfl) rfl rfl (by kernel_rfl) hl h
/-- towncrier/varint.Put -/
theorem call66 {args : List Value} {σ : AHeap} {Q : Value → AHeap → Prop} (hl : args.length ≤ 39) (h : CodeS E B (strip [] (bodyOf Tryd.f66)) (L 39 (ofL args)) σ (outS E [.tmp 2, .tmp 3] (downS Q))) : CallS E B 66 args σ Q :=
  S_callK hB [] rfl rfl rfl (by kernel_rfl) rfl rfl (by kernel_rfl) hl h
/-- towncrier/varint.Put -/
theorem wcall66 {args : List Value} {H : AHeap} {Q : Value → AHeap → Prop} (hl : args.length ≤ 39) (h : CodeW E (strip [] (bodyOf Tryd.f66)) (L 39 (ofL args))  H (retQ E [.tmp 2, .tmp 3] Q)) : CallW E 66 args H Q :=
  W_callK [] rfl rfl rfl (by kernel_rfl) rfl rfl (by kernel_rfl) hl h
/-- towncrier/towncrierref02.Put -/
theorem call67 {args : List Value} {σ : AHeap} {Q : Value → AHeap → Prop} (hl : args.length ≤ 31) (h : CodeS E B (strip [] (bodyOf Tryd.f67)) (L 31 (ofL args)) σ (outS E [.tmp 2, .tmp 3] (downS Q))) : CallS E B 67 args σ Q :=
  S_callK hB [] rfl rfl rfl (by kernel_rfl) rfl rfl (by kernel_rfl) hl h
/-- towncrier/towncrierref02.Put -/
theorem wcall67 {args : List Value} {H : AHeap} {Q : Value → AHeap → Prop} (hl : args.length ≤ 31) (h : CodeW E (strip [] (bodyOf Tryd.f67)) (L 31 (ofL args))  H (retQ E [.tmp 2, .tmp 3] Q)) : CallW E 67 args H Q :=
  W_callK [] rfl rfl rfl (by kernel_rfl) rfl rfl (by kernel_rfl) hl h
/-- towncrier/fault.Reason -/
theorem call68 {args : List Value} {σ : AHeap} {Q : Value → AHeap → Prop} (hl : args.length ≤ 13) (h : CodeS E B (strip [] (bodyOf Tryd.f68)) (L 13 (ofL args)) σ (outS E [.tmp 2] (downS Q))) : CallS E B 68 args σ Q :=
  S_callK hB [] rfl rfl rfl (by kernel_rfl) rfl rfl (by kernel_rfl) hl h
/-- towncrier/fault.Reason -/
theorem wcall68 {args : List Value} {H : AHeap} {Q : Value → AHeap → Prop} (hl : args.length ≤ 13) (h : CodeW E (strip [] (bodyOf Tryd.f68)) (L 13 (ofL args))  H (retQ E [.tmp 2] Q)) : CallW E 68 args H Q :=
  W_callK [] rfl rfl rfl (by kernel_rfl) rfl rfl (by kernel_rfl) hl h
/-- towncrier/fault.At -/
theorem call69 {args : List Value} {σ : AHeap} {Q : Value → AHeap → Prop} (hl : args.length ≤ 15) (h : CodeS E B (strip [] (bodyOf Tryd.f69)) (L 15 (ofL args)) σ (outS E [.tmp 2] (downS Q))) : CallS E B 69 args σ Q :=
  S_callK hB [] rfl rfl rfl (by kernel_rfl) rfl rfl (by kernel_rfl) hl h
/-- towncrier/fault.At -/
theorem wcall69 {args : List Value} {H : AHeap} {Q : Value → AHeap → Prop} (hl : args.length ≤ 15) (h : CodeW E (strip [] (bodyOf Tryd.f69)) (L 15 (ofL args))  H (retQ E [.tmp 2] Q)) : CallW E 69 args H Q :=
  W_callK [] rfl rfl rfl (by kernel_rfl) rfl rfl (by kernel_rfl) hl h
/-- towncrier/frame.may -/
theorem call70 {args : List Value} {σ : AHeap} {Q : Value → AHeap → Prop} (hl : args.length ≤ 37) (h : CodeS E B (strip [] (bodyOf Tryd.f70)) (L 37 (ofL args)) σ (outS E [.tmp 4] (downS Q))) : CallS E B 70 args σ Q :=
  S_callK hB [] rfl rfl rfl (by kernel_rfl) rfl rfl (by kernel_rfl) hl h
/-- towncrier/towncrierref02.Take -/
theorem call71 {args : List Value} {σ : AHeap} {Q : Value → AHeap → Prop} (hl : args.length ≤ 44) (h : CodeS E B (strip [] (bodyOf Tryd.f71)) (L 44 (ofL args)) σ (outS E [.tmp 2, .tmp 3, .tmp 4, .tmp 5] (downS Q))) : CallS E B 71 args σ Q :=
  S_callK hB [] rfl rfl rfl (by kernel_rfl) rfl rfl (by kernel_rfl) hl h
/-- towncrier/towncrierref02.Take -/
theorem wcall71 {args : List Value} {H : AHeap} {Q : Value → AHeap → Prop} (hl : args.length ≤ 44) (h : CodeW E (strip [] (bodyOf Tryd.f71)) (L 44 (ofL args))  H (retQ E [.tmp 2, .tmp 3, .tmp 4, .tmp 5] Q)) : CallW E 71 args H Q :=
  W_callK [] rfl rfl rfl (by kernel_rfl) rfl rfl (by kernel_rfl) hl h
/-- (*towncrier/frame.Splitter).first -/
theorem call72 {args : List Value} {σ : AHeap} {Q : Value → AHeap → Prop} (hl : args.length ≤ 9) (h : CodeS E B (strip [] (bodyOf Tryd.f72)) (L 9 (ofL args)) σ (outS E [.tmp 2] (downS Q))) : CallS E B 72 args σ Q :=
  S_callK hB [] rfl rfl rfl (by kernel_rfl) rfl rfl (by kernel_rfl) hl h
/-- (*towncrier/frame.Splitter).length -/
theorem call73 {args : List Value} {σ : AHeap} {Q : Value → AHeap → Prop} (hl : args.length ≤ 52) (h : CodeS E B (strip [] (bodyOf Tryd.f73)) (L 52 (ofL args)) σ (outS E [.tmp 2, .tmp 3, .tmp 4] (downS Q))) : CallS E B 73 args σ Q :=
  S_callK hB [] rfl rfl rfl (by kernel_rfl) rfl rfl (by kernel_rfl) hl h
/-- (*towncrier/towncrierref04.Reader).Raw -/
theorem call74 {args : List Value} {σ : AHeap} {Q : Value → AHeap → Prop} (hl : args.length ≤ 14) (h : CodeS E B (strip [] (bodyOf Tryd.f74)) (L 14 (ofL args)) σ (outS E [.tmp 4] (downS Q))) : CallS E B 74 args σ Q :=
  S_callK hB [] rfl rfl rfl (by kernel_rfl) rfl rfl (by kernel_rfl) hl h
/-- towncrier/towncrierref43.config -/
theorem call75 {args : List Value} {σ : AHeap} {Q : Value → AHeap → Prop} (hl : args.length ≤ 45) (h : CodeS E B (strip [] (bodyOf Tryd.f75)) (L 45 (ofL args)) σ (outS E [.cell 2 23] (downS Q))) : CallS E B 75 args σ Q :=
  S_callK hB [] rfl rfl rfl (by kernel_rfl) rfl rfl (by kernel_rfl) hl h
/-- towncrier/towncrierref43.of -/
theorem call76 {args : List Value} {σ : AHeap} {Q : Value → AHeap → Prop} (hl : args.length ≤ 16) (h : CodeS E B (strip [] (bodyOf Tryd.f76)) (L 16 (ofL args)) σ (outS E [.cell 2 40] (downS Q))) : CallS E B 76 args σ Q :=
  S_callK hB [] rfl rfl rfl (by kernel_rfl) rfl rfl (by kernel_rfl) hl h
/-- towncrier/towncrierref28.Check -/
theorem call77 {args : List Value} {σ : AHeap} {Q : Value → AHeap → Prop} (hl : args.length ≤ 59) (h : CodeS E B (strip [] (bodyOf Tryd.f77)) (L 59 (ofL args)) σ (outS E [.cell 2 40] (downS Q))) : CallS E B 77 args σ Q :=
  S_callK hB [] rfl rfl rfl (by kernel_rfl) rfl rfl (by kernel_rfl) hl h
/-- (*towncrier/towncrierref04.Reader).U16 -/
theorem call78 {args : List Value} {σ : AHeap} {Q : Value → AHeap → Prop} (hl : args.length ≤ 5) (h : CodeS E B (strip [] (bodyOf Tryd.f78)) (L 5 (ofL args)) σ (outS E [.tmp 2] (downS Q))) : CallS E B 78 args σ Q :=
  S_callK hB [] rfl rfl rfl (by kernel_rfl) rfl rfl (by kernel_rfl) hl h
/-- (*towncrier/towncrierref04.Reader).U8 -/
theorem call79 {args : List Value} {σ : AHeap} {Q : Value → AHeap → Prop} (hl : args.length ≤ 5) (h : CodeS E B (strip [] (bodyOf Tryd.f79)) (L 5 (ofL args)) σ (outS E [.tmp 2] (downS Q))) : CallS E B 79 args σ Q :=
  S_callK hB [] rfl rfl rfl (by kernel_rfl) rfl rfl (by kernel_rfl) hl h
/-- (*towncrier/towncrierref04.Reader).U32 -/
theorem call80 {args : List Value} {σ : AHeap} {Q : Value → AHeap → Prop} (hl : args.length ≤ 5) (h : CodeS E B (strip [] (bodyOf Tryd.f80)) (L 5 (ofL args)) σ (outS E [.tmp 2] (downS Q))) : CallS E B 80 args σ Q :=
  S_callK hB [] rfl rfl rfl (by kernel_rfl) rfl rfl (by kernel_rfl) hl h
/-- (*towncrier/towncrierref04.Reader).Bin -/
theorem call81 {args : List Value} {σ : AHeap} {Q : Value → AHeap → Prop} (hl : args.length ≤ 23) (h : CodeS E B (strip [] (bodyOf Tryd.f81)) (L 23 (ofL args)) σ (outS E [.tmp 2] (downS Q))) : CallS E B 81 args σ Q :=
  S_callK hB [] rfl rfl rfl (by kernel_rfl) rfl rfl (by kernel_rfl) hl h
/-- towncrier/towncrierref43.may -/
theorem call82 {args : List Value} {σ : AHeap} {Q : Value → AHeap → Prop} (hl : args.length ≤ 9) (h : CodeS E B (strip [] (bodyOf Tryd.f82)) (L 9 (ofL args)) σ (outS E [.tmp 2] (downS Q))) : CallS E B 82 args σ Q :=
  S_callK hB [] rfl rfl rfl (by kernel_rfl) rfl rfl (by kernel_rfl) hl h
/-- (*towncrier/field.Writer).Text -/
theorem call83 {args : List Value} {σ : AHeap} {Q : Value → AHeap → Prop} (hl : args.length ≤ 24) (h : CodeS E B (strip [] (bodyOf Tryd.f83)) (L 24 (ofL args)) σ (outS E [] (downS Q))) : CallS E B 83 args σ Q :=
  S_callK hB [] rfl rfl rfl (by kernel_rfl) rfl rfl (by kernel_rfl) hl h
/-- (*towncrier/field.Reader).U16 -/
theorem call84 {args : List Value} {σ : AHeap} {Q : Value → AHeap → Prop} (hl : args.length ≤ 5) (h : CodeS E B (strip [] (bodyOf Tryd.f84)) (L 5 (ofL args)) σ (outS E [.tmp 2] (downS Q))) : CallS E B 84 args σ Q :=
  S_callK hB [] rfl rfl rfl (by kernel_rfl) rfl rfl (by kernel_rfl) hl h
/-- (*towncrier/field.Reader).Text -/
theorem call85 {args : List Value} {σ : AHeap} {Q : Value → AHeap → Prop} (hl : args.length ≤ 27) (h : CodeS E B (strip [] (bodyOf Tryd.f85)) (L 27 (ofL args)) σ (outS E [.tmp 2] (downS Q))) : CallS E B 85 args σ Q :=
  S_callK hB [] rfl rfl rfl (by kernel_rfl) rfl rfl (by kernel_rfl) hl h
/-- (*towncrier/field.Reader).U32 -/
theorem call86 {args : List Value} {σ : AHeap} {Q : Value → AHeap → Prop} (hl : args.length ≤ 5) (h : CodeS E B (strip [] (bodyOf Tryd.f86)) (L 5 (ofL args)) σ (outS E [.tmp 2] (downS Q))) : CallS E B 86 args σ Q :=
  S_callK hB [] rfl rfl rfl (by kernel_rfl) rfl rfl (by kernel_rfl) hl h
/-- (*towncrier/field.Writer).Var -/
theorem call87 {args : List Value} {σ : AHeap} {Q : Value → AHeap → Prop} (hl : args.length ≤ 33) (h : CodeS E B (strip [] (bodyOf Tryd.f87)) (L 33 (ofL args)) σ (outS E [] (downS Q))) : CallS E B 87 args σ Q :=
  S_callK hB [] rfl rfl rfl (by kernel_rfl) rfl rfl (by kernel_rfl) hl h
/-- (*towncrier/field.Writer).first -/
theorem call88 {args : List Value} {σ : AHeap} {Q : Value → AHeap → Prop} (hl : args.length ≤ 9) (h : CodeS E B (strip [] (bodyOf Tryd.f88)) (L 9 (ofL args)) σ (outS E [.tmp 2] (downS Q))) : CallS E B 88 args σ Q :=
  S_callK hB [] rfl rfl rfl (by kernel_rfl) rfl rfl (by kernel_rfl) hl h
/-- (*towncrier/field.Reader).U8 -/
theorem call89 {args : List Value} {σ : AHeap} {Q : Value → AHeap → Prop} (hl : args.length ≤ 5) (h : CodeS E B (strip [] (bodyOf Tryd.f89)) (L 5 (ofL args)) σ (outS E [.tmp 2] (downS Q))) : CallS E B 89 args σ Q :=
  S_callK hB [] rfl rfl rfl (by kernel_rfl) rfl rfl (by kernel_rfl) hl h
/-- (*towncrier/field.Reader).Var -/
theorem call90 {args : List Value} {σ : AHeap} {Q : Value → AHeap → Prop} (hl : args.length ≤ 42) (h : CodeS E B (strip [] (bodyOf Tryd.f90)) (L 42 (ofL args)) σ (outS E [.tmp 2] (downS Q))) : CallS E B 90 args σ Q :=
  S_callK hB [] rfl rfl rfl (by kernel_rfl) rfl rfl (by kernel_rfl) hl h
/-- (*towncrier/field.Reader).Bin -/
theorem call91 {args : List Value} {σ : AHeap} {Q : Value → AHeap → Prop} (hl : args.length ≤ 15) (h : CodeS E B (strip [] (bodyOf Tryd.f91)) (L 15 (ofL args)) σ (outS E [.tmp 2] (downS Q))) : CallS E B 91 args σ Q :=
  S_callK hB [] rfl rfl rfl (by kernel_rfl) rfl rfl (by kernel_rfl) hl h
/-- (*towncrier/field.Reader).Raw -/
theorem call92 {args : List Value} {σ : AHeap} {Q : Value → AHeap → Prop} (hl : args.length ≤ 68) (h : CodeS E B (strip [] (bodyOf Tryd.f92)) (L 68 (ofL args)) σ (outS E [.tmp 4] (downS Q))) : CallS E B 92 args σ Q :=
  S_callK hB [] rfl rfl rfl (by kernel_rfl) rfl rfl (by kernel_rfl) hl h
/-- (*towncrier/field.Reader).Rest -/
theorem call93 {args : List Value} {σ : AHeap} {Q : Value → AHeap → Prop} (hl : args.length ≤ 7) (h : CodeS E B (strip [] (bodyOf Tryd.f93)) (L 7 (ofL args)) σ (outS E [.tmp 2] (downS Q))) : CallS E B 93 args σ Q :=
  S_callK hB [] rfl rfl rfl (by kernel_rfl) rfl rfl (by kernel_rfl) hl h
/-- towncrier/prop.Get -/
theorem call95 {args : List Value} {σ : AHeap} {Q : Value → AHeap → Prop} (hl : args.length ≤ 17) (h : CodeS E B (strip [] (bodyOf Tryd.f95)) (L 17 (ofL args)) σ (outS E [.cell 4 140, .tmp 5] (downS Q))) : CallS E B 95 args σ Q :=
  S_callK hB [] rfl rfl rfl (by kernel_rfl) rfl rfl (by kernel_rfl) hl h
/-- towncrier/prop.Type -/
theorem call96 {args : List Value} {σ : AHeap} {Q : Value → AHeap → Prop} (hl : args.length ≤ 38) (h : CodeS E B (strip [] (bodyOf Tryd.f96)) (L 38 (ofL args)) σ (outS E [.tmp 2] (downS Q))) : CallS E B 96 args σ Q :=
  S_callK hB [] rfl rfl rfl (by kernel_rfl) rfl rfl (by kernel_rfl) hl h
/-- towncrier/prop.Number -/
theorem call97 {args : List Value} {σ : AHeap} {Q : Value → AHeap → Prop} (hl : args.length ≤ 20) (h : CodeS E B (strip [] (bodyOf Tryd.f97)) (L 20 (ofL args)) σ (outS E [.tmp 6] (downS Q))) : CallS E B 97 args σ Q :=
  S_callK hB [] rfl rfl rfl (by kernel_rfl) rfl rfl (by kernel_rfl) hl h
/-- towncrier/prop.Without -/
theorem call98 {args : List Value} {σ : AHeap} {Q : Value → AHeap → Prop} (hl : args.length ≤ 9) (h : CodeS E B (strip [] (bodyOf Tryd.f98)) (L 9 (ofL args)) σ (outS E [.tmp 4] (downS Q))) : CallS E B 98 args σ Q :=
  S_callK hB [] rfl rfl rfl (by kernel_rfl) rfl rfl (by kernel_rfl) hl h
/-- towncrier/prop.one -/
theorem call99 {args : List Value} {σ : AHeap} {Q : Value → AHeap → Prop} (hl : args.length ≤ 46) (h : CodeS E B (strip [13] (bodyOf Tryd.f99)) (L 46 (ofL args)) σ (outS E [.cell 6 140, .tmp 7] (downS Q))) : CallS E B 99 args σ Q :=
  S_callK hB [13] rfl rfl rfl (by kernel_rfl) rfl rfl (by kernel_rfl) hl h
/-- towncrier/fault.Deeper -/
theorem call100 {args : List Value} {σ : AHeap} {Q : Value → AHeap → Prop} (hl : args.length ≤ 17) (h : CodeS E B (strip [] (bodyOf Tryd.f100)) (L 17 (ofL args)) σ (outS E [.tmp 4] (downS Q))) : CallS E B 100 args σ Q :=
  S_callK hB [] rfl rfl rfl (by kernel_rfl) rfl rfl (by kernel_rfl) hl h
/-- towncrier/fault.Deeper -/
theorem wcall100 {args : List Value} {H : AHeap} {Q : Value → AHeap → Prop} (hl : args.length ≤ 17) (h : CodeW E (strip [] (bodyOf Tryd.f100)) (L 17 (ofL args))  H (retQ E [.tmp 4] Q)) : CallW E 100 args H Q :=
  W_callK [] rfl rfl rfl (by kernel_rfl) rfl rfl (by kernel_rfl) hl h
/-- towncrier/prop.ground -/
theorem call101 {args : List Value} {σ : AHeap} {Q : Value → AHeap → Prop} (hl : args.length ≤ 51) (h : CodeS E B (strip [] (bodyOf Tryd.f101)) (L 51 (ofL args)) σ (outS E [.tmp 8] (downS Q))) : CallS E B 101 args σ Q :=
  S_callK hB [] rfl rfl rfl (by kernel_rfl) rfl rfl (by kernel_rfl) hl h
/-- towncrier/prop.bad -/
theorem call102 {args : List Value} {σ : AHeap} {Q : Value → AHeap → Prop} (hl : args.length ≤ 10) (h : CodeS E B (strip [] (bodyOf Tryd.f102)) (L 10 (ofL args)) σ (outS E [.tmp 4] (downS Q))) : CallS E B 102 args σ Q :=
  S_callK hB [] rfl rfl rfl (by kernel_rfl) rfl rfl (by kernel_rfl) hl h
/-- towncrier/prop.write -/
theorem call103 {args : List Value} {σ : AHeap} {Q : Value → AHeap → Prop} (hl : args.length ≤ 57) (h : CodeS E B (strip [] (bodyOf Tryd.f103)) (L 57 (ofL args)) σ (outS E [] (downS Q))) : CallS E B 103 args σ Q :=
  S_callK hB [] rfl rfl rfl (by kernel_rfl) rfl rfl (by kernel_rfl) hl h
/-- towncrier/towncrierref06.Type -/
theorem call104 {args : List Value} {σ : AHeap} {Q : Value → AHeap → Prop} (hl : args.length ≤ 38) (h : CodeS E B (strip [] (bodyOf Tryd.f104)) (L 38 (ofL args)) σ (outS E [.tmp 2] (downS Q))) : CallS E B 104 args σ Q :=
  S_callK hB [] rfl rfl rfl (by kernel_rfl) rfl rfl (by kernel_rfl) hl h
/-- towncrier/store.Put -/
theorem call105 {args : List Value} {σ : AHeap} {Q : Value → AHeap → Prop} (hl : args.length ≤ 39) (h : CodeS E B (strip [] (bodyOf Tryd.f105)) (L 39 (ofL args)) σ (outS E [.tmp 2, .tmp 3] (downS Q))) : CallS E B 105 args σ Q :=
  S_callK hB [] rfl rfl rfl (by kernel_rfl) rfl rfl (by kernel_rfl) hl h
/-- towncrier/towncrierref19.SameMsg -/
theorem call106 {args : List Value} {σ : AHeap} {Q : Value → AHeap → Prop} (hl : args.length ≤ 66) (h : CodeS E B (strip [] (bodyOf Tryd.f106)) (L 66 (ofL args)) σ (outS E [.tmp 4] (downS Q))) : CallS E B 106 args σ Q :=
  S_callK hB [] rfl rfl rfl (by kernel_rfl) rfl rfl (by kernel_rfl) hl h
/-- towncrier/towncrierref19.Same -/
theorem call107 {args : List Value} {σ : AHeap} {Q : Value → AHeap → Prop} (hl : args.length ≤ 33) (h : CodeS E B (strip [] (bodyOf Tryd.f107)) (L 33 (ofL args)) σ (outS E [.tmp 4] (downS Q))) : CallS E B 107 args σ Q :=
  S_callK hB [] rfl rfl rfl (by kernel_rfl) rfl rfl (by kernel_rfl) hl h
/-- towncrier/store.Rewrite -/
theorem call108 {args : List Value} {σ : AHeap} {Q : Value → AHeap → Prop} (hl : args.length ≤ 30) (h : CodeS E B (strip [] (bodyOf Tryd.f108)) (L 30 (ofL args)) σ (outS E [.tmp 4] (downS Q))) : CallS E B 108 args σ Q :=
  S_callK hB [] rfl rfl rfl (by kernel_rfl) rfl rfl (by kernel_rfl) hl h
/-- slices.IndexFunc[[]towncrier/api.Msg,towncrier/api.Msg] -/
theorem call109 {args : List Value} {σ : AHeap} {Q : Value → AHeap → Prop} (hl : args.length ≤ 19) (h : CodeS E B (strip [] (bodyOf Tryd.f109)) (L 19 (ofL args)) σ (outS E [.tmp 4] (downS Q))) : CallS E B 109 args σ Q :=
  S_callK hB [] rfl rfl rfl (by kernel_rfl) rfl rfl (by kernel_rfl) hl h
/-- towncrier/store.Replay$1 -/
theorem call110 {args : List Value} {σ : AHeap} {Q : Value → AHeap → Prop} (hl : args.length ≤ 16) (h : CodeS E B (strip [] (bodyOf Tryd.f110)) (L 16 (ofL args)) σ (outS E [.tmp 3] (downS Q))) : CallS E B 110 args σ Q :=
  S_callK hB [] rfl rfl rfl (by kernel_rfl) rfl rfl (by kernel_rfl) hl h
/-- slices.Delete[[]towncrier/api.Msg,towncrier/api.Msg] -/
theorem call111 {args : List Value} {σ : AHeap} {Q : Value → AHeap → Prop} (hl : args.length ≤ 33) (h : CodeS E B (strip [] (bodyOf Tryd.f111)) (L 33 (ofL args)) σ (outS E [.tmp 6] (downS Q))) : CallS E B 111 args σ Q :=
  S_callK hB [] rfl rfl rfl (by kernel_rfl) rfl rfl (by kernel_rfl) hl h
/-- towncrier/store.read -/
theorem call112 {args : List Value} {σ : AHeap} {Q : Value → AHeap → Prop} (hl : args.length ≤ 52) (h : CodeS E B (strip [6] (bodyOf Tryd.f112)) (L 52 (ofL args)) σ (outS E [.cell 6 97, .tmp 7, .tmp 8] (downS Q))) : CallS E B 112 args σ Q :=
  S_callK hB [6] rfl rfl rfl (by kernel_rfl) rfl rfl (by kernel_rfl) hl h
/-- towncrier/store.may -/
theorem call113 {args : List Value} {σ : AHeap} {Q : Value → AHeap → Prop} (hl : args.length ≤ 58) (h : CodeS E B (strip [] (bodyOf Tryd.f113)) (L 58 (ofL args)) σ (outS E [.tmp 2] (downS Q))) : CallS E B 113 args σ Q :=
  S_callK hB [] rfl rfl rfl (by kernel_rfl) rfl rfl (by kernel_rfl) hl h
/-- towncrier/terms.bounds -/
theorem call114 {args : List Value} {σ : AHeap} {Q : Value → AHeap → Prop} (hl : args.length ≤ 43) (h : CodeS E B (strip [] (bodyOf Tryd.f114)) (L 43 (ofL args)) σ (outS E [.tmp 2] (downS Q))) : CallS E B 114 args σ Q :=
  S_callK hB [] rfl rfl rfl (by kernel_rfl) rfl rfl (by kernel_rfl) hl h
/-- (*towncrier/field.Writer).off -/
theorem call115 {args : List Value} {σ : AHeap} {Q : Value → AHeap → Prop} (hl : args.length ≤ 12) (h : CodeS E B (strip [] (bodyOf Tryd.f115)) (L 12 (ofL args)) σ (outS E [.tmp 2] (downS Q))) : CallS E B 115 args σ Q :=
  S_callK hB [] rfl rfl rfl (by kernel_rfl) rfl rfl (by kernel_rfl) hl h
/-- (*towncrier/field.Writer).number -/
theorem call116 {args : List Value} {σ : AHeap} {Q : Value → AHeap → Prop} (hl : args.length ≤ 69) (h : CodeS E B (strip [] (bodyOf Tryd.f116)) (L 69 (ofL args)) σ (outS E [] (downS Q))) : CallS E B 116 args σ Q :=
  S_callK hB [] rfl rfl rfl (by kernel_rfl) rfl rfl (by kernel_rfl) hl h
/-- towncrier/script.config -/
theorem call117 {args : List Value} {σ : AHeap} {Q : Value → AHeap → Prop} (hl : args.length ≤ 52) (h : CodeS E B (strip [11] (bodyOf Tryd.f117)) (L 52 (ofL args)) σ (outS E [.cell 2 23, .tmp 3] (downS Q))) : CallS E B 117 args σ Q :=
  S_callK hB [11] rfl rfl rfl (by kernel_rfl) rfl rfl (by kernel_rfl) hl h
/-- towncrier/script.event -/
theorem call118 {args : List Value} {σ : AHeap} {Q : Value → AHeap → Prop} (hl : args.length ≤ 33) (h : CodeS E B (strip [4, 5] (bodyOf Tryd.f118)) (L 33 (ofL args)) σ (outS E [.cell 2 104, .tmp 3] (downS Q))) : CallS E B 118 args σ Q :=
  S_callK hB [4, 5] rfl rfl rfl (by kernel_rfl) rfl rfl (by kernel_rfl) hl h
/-- towncrier/varint.Size -/
theorem call119 {args : List Value} {σ : AHeap} {Q : Value → AHeap → Prop} (hl : args.length ≤ 17) (h : CodeS E B (strip [] (bodyOf Tryd.f119)) (L 17 (ofL args)) σ (outS E [.tmp 2] (downS Q))) : CallS E B 119 args σ Q :=
  S_callK hB [] rfl rfl rfl (by kernel_rfl) rfl rfl (by kernel_rfl) hl h
/-- towncrier/varint.Size -/
theorem wcall119 {args : List Value} {H : AHeap} {Q : Value → AHeap → Prop} (hl : args.length ≤ 17) (h : CodeW E (strip [] (bodyOf Tryd.f119)) (L 17 (ofL args))  H (retQ E [.tmp 2] Q)) : CallW E 119 args H Q :=
  W_callK [] rfl rfl rfl (by kernel_rfl) rfl rfl (by kernel_rfl) hl h
/-- towncrier/varint.Take -/
theorem call121 {args : List Value} {σ : AHeap} {Q : Value → AHeap → Prop} (hl : args.length ≤ 48) (h : CodeS E B (strip [] (bodyOf Tryd.f121)) (L 48 (ofL args)) σ (outS E [.tmp 2, .tmp 3, .tmp 4] (downS Q))) : CallS E B 121 args σ Q :=
  S_callK hB [] rfl rfl rfl (by kernel_rfl) rfl rfl (by kernel_rfl) hl h
/-- towncrier/varint.Take -/
theorem wcall121 {args : List Value} {H : AHeap} {Q : Value → AHeap → Prop} (hl : args.length ≤ 48) (h : CodeW E (strip [] (bodyOf Tryd.f121)) (L 48 (ofL args))  H (retQ E [.tmp 2, .tmp 3, .tmp 4] Q)) : CallW E 121 args H Q :=
  W_callK [] rfl rfl rfl (by kernel_rfl) rfl rfl (by kernel_rfl) hl h
/-- (*towncrier/towncrierref04.Reader).take -/
theorem call122 {args : List Value} {σ : AHeap} {Q : Value → AHeap → Prop} (hl : args.length ≤ 64) (h : CodeS E B (strip [] (bodyOf Tryd.f122)) (L 64 (ofL args)) σ (outS E [.tmp 4, .tmp 5] (downS Q))) : CallS E B 122 args σ Q :=
  S_callK hB [] rfl rfl rfl (by kernel_rfl) rfl rfl (by kernel_rfl) hl h
/-- (*towncrier/towncrierref04.Reader).Done -/
theorem call123 {args : List Value} {σ : AHeap} {Q : Value → AHeap → Prop} (hl : args.length ≤ 33) (h : CodeS E B (strip [] (bodyOf Tryd.f123)) (L 33 (ofL args)) σ (outS E [.tmp 2, .tmp 3] (downS Q))) : CallS E B 123 args σ Q :=
  S_callK hB [] rfl rfl rfl (by kernel_rfl) rfl rfl (by kernel_rfl) hl h
/-- (*towncrier/towncrierref04.Reader).number -/
theorem call124 {args : List Value} {σ : AHeap} {Q : Value → AHeap → Prop} (hl : args.length ≤ 32) (h : CodeS E B (strip [] (bodyOf Tryd.f124)) (L 32 (ofL args)) σ (outS E [.tmp 4] (downS Q))) : CallS E B 124 args σ Q :=
  S_callK hB [] rfl rfl rfl (by kernel_rfl) rfl rfl (by kernel_rfl) hl h
/-- towncrier/utf.Check -/
theorem call125 {args : List Value} {σ : AHeap} {Q : Value → AHeap → Prop} (hl : args.length ≤ 11) (h : CodeS E B (strip [] (bodyOf Tryd.f125)) (L 11 (ofL args)) σ (outS E [.tmp 2] (downS Q))) : CallS E B 125 args σ Q :=
  S_callK hB [] rfl rfl rfl (by kernel_rfl) rfl rfl (by kernel_rfl) hl h
/-- towncrier/utf.Check -/
theorem wcall125 {args : List Value} {H : AHeap} {Q : Value → AHeap → Prop} (hl : args.length ≤ 11) (h : CodeW E (strip [] (bodyOf Tryd.f125)) (L 11 (ofL args))  H (retQ E [.tmp 2] Q)) : CallW E 125 args H Q :=
  W_callK [] rfl rfl rfl (by kernel_rfl) rfl rfl (by kernel_rfl) hl h
/-- (*towncrier/field.Writer).fail -/
theorem call126 {args : List Value} {σ : AHeap} {Q : Value → AHeap → Prop} (hl : args.length ≤ 8) (h : CodeS E B (strip [] (bodyOf Tryd.f126)) (L 8 (ofL args)) σ (outS E [] (downS Q))) : CallS E B 126 args σ Q :=
  S_callK hB [] rfl rfl rfl (by kernel_rfl) rfl rfl (by kernel_rfl) hl h
/-- (*towncrier/field.Reader).number -/
theorem call127 {args : List Value} {σ : AHeap} {Q : Value → AHeap → Prop} (hl : args.length ≤ 24) (h : CodeS E B (strip [] (bodyOf Tryd.f127)) (L 24 (ofL args)) σ (outS E [.tmp 4] (downS Q))) : CallS E B 127 args σ Q :=
  S_callK hB [] rfl rfl rfl (by kernel_rfl) rfl rfl (by kernel_rfl) hl h
/-- (*towncrier/field.Reader).off -/
theorem call128 {args : List Value} {σ : AHeap} {Q : Value → AHeap → Prop} (hl : args.length ≤ 12) (h : CodeS E B (strip [] (bodyOf Tryd.f128)) (L 12 (ofL args)) σ (outS E [.tmp 2] (downS Q))) : CallS E B 128 args σ Q :=
  S_callK hB [] rfl rfl rfl (by kernel_rfl) rfl rfl (by kernel_rfl) hl h
/-- (*towncrier/field.Reader).back -/
theorem call129 {args : List Value} {σ : AHeap} {Q : Value → AHeap → Prop} (hl : args.length ≤ 17) (h : CodeS E B (strip [] (bodyOf Tryd.f129)) (L 17 (ofL args)) σ (outS E [] (downS Q))) : CallS E B 129 args σ Q :=
  S_callK hB [] rfl rfl rfl (by kernel_rfl) rfl rfl (by kernel_rfl) hl h
/-- errors.is -/
theorem call131 {args : List Value} {σ : AHeap} {Q : Value → AHeap → Prop} (hl : args.length ≤ 54) (h : CodeS E B (strip [] (bodyOf Tryd.f131)) (L 54 (ofL args)) σ (outS E [.tmp 6] (downS Q))) : CallS E B 131 args σ Q :=
  S_callK hB [] rfl rfl rfl (by kernel_rfl) rfl rfl (by kernel_rfl) hl h
/-- slices.IndexFunc[[]towncrier/api.Prop,towncrier/api.Prop] -/
theorem call132 {args : List Value} {σ : AHeap} {Q : Value → AHeap → Prop} (hl : args.length ≤ 19) (h : CodeS E B (strip [] (bodyOf Tryd.f132)) (L 19 (ofL args)) σ (outS E [.tmp 4] (downS Q))) : CallS E B 132 args σ Q :=
  S_callK hB [] rfl rfl rfl (by kernel_rfl) rfl rfl (by kernel_rfl) hl h
/-- towncrier/prop.Get$1 -/
theorem call133 {args : List Value} {σ : AHeap} {Q : Value → AHeap → Prop} (hl : args.length ≤ 8) (h : CodeS E B (strip [] (bodyOf Tryd.f133)) (L 8 (ofL args)) σ (outS E [.tmp 3] (downS Q))) : CallS E B 133 args σ Q :=
  S_callK hB [] rfl rfl rfl (by kernel_rfl) rfl rfl (by kernel_rfl) hl h
/-- slices.DeleteFunc[[]towncrier/api.Prop,towncrier/api.Prop] -/
theorem call134 {args : List Value} {σ : AHeap} {Q : Value → AHeap → Prop} (hl : args.length ≤ 42) (h : CodeS E B (strip [] (bodyOf Tryd.f134)) (L 42 (ofL args)) σ (outS E [.tmp 4] (downS Q))) : CallS E B 134 args σ Q :=
  S_callK hB [] rfl rfl rfl (by kernel_rfl) rfl rfl (by kernel_rfl) hl h
/-- slices.Clone[[]towncrier/api.Prop,towncrier/api.Prop] -/
theorem call135 {args : List Value} {σ : AHeap} {Q : Value → AHeap → Prop} (hl : args.length ≤ 8) (h : CodeS E B (strip [] (bodyOf Tryd.f135)) (L 8 (ofL args)) σ (outS E [.tmp 2] (downS Q))) : CallS E B 135 args σ Q :=
  S_callK hB [] rfl rfl rfl (by kernel_rfl) rfl rfl (by kernel_rfl) hl h
/-- towncrier/prop.Without$1 -/
theorem call136 {args : List Value} {σ : AHeap} {Q : Value → AHeap → Prop} (hl : args.length ≤ 8) (h : CodeS E B (strip [] (bodyOf Tryd.f136)) (L 8 (ofL args)) σ (outS E [.tmp 3] (downS Q))) : CallS E B 136 args σ Q :=
  S_callK hB [] rfl rfl rfl (by kernel_rfl) rfl rfl (by kernel_rfl) hl h
/-- towncrier/prop.value -/
theorem call137 {args : List Value} {σ : AHeap} {Q : Value → AHeap → Prop} (hl : args.length ≤ 49) (h : CodeS E B (strip [] (bodyOf Tryd.f137)) (L 49 (ofL args)) σ (outS E [.cell 4 140] (downS Q))) : CallS E B 137 args σ Q :=
  S_callK hB [] rfl rfl rfl (by kernel_rfl) rfl rfl (by kernel_rfl) hl h
/-- towncrier/fault.further -/
theorem call138 {args : List Value} {σ : AHeap} {Q : Value → AHeap → Prop} (hl : args.length ≤ 12) (h : CodeS E B (strip [] (bodyOf Tryd.f138)) (L 12 (ofL args)) σ (outS E [.tmp 4] (downS Q))) : CallS E B 138 args σ Q :=
  S_callK hB [] rfl rfl rfl (by kernel_rfl) rfl rfl (by kernel_rfl) hl h
/-- towncrier/fault.further -/
theorem wcall138 {args : List Value} {H : AHeap} {Q : Value → AHeap → Prop} (hl : args.length ≤ 12) (h : CodeW E (strip [] (bodyOf Tryd.f138)) (L 12 (ofL args))  H (retQ E [.tmp 4] Q)) : CallW E 138 args H Q :=
  W_callK [] rfl rfl rfl (by kernel_rfl) rfl rfl (by kernel_rfl) hl h
/-- towncrier/prop.Allowed -/
theorem call139 {args : List Value} {σ : AHeap} {Q : Value → AHeap → Prop} (hl : args.length ≤ 114) (h : CodeS E B (strip [] (bodyOf Tryd.f139)) (L 114 (ofL args)) σ (outS E [.tmp 4] (downS Q))) : CallS E B 139 args σ Q :=
  S_callK hB [] rfl rfl rfl (by kernel_rfl) rfl rfl (by kernel_rfl) hl h
/-- slices.ContainsFunc[[]towncrier/api.Prop,towncrier/api.Prop] -/
theorem call140 {args : List Value} {σ : AHeap} {Q : Value → AHeap → Prop} (hl : args.length ≤ 9) (h : CodeS E B (strip [] (bodyOf Tryd.f140)) (L 9 (ofL args)) σ (outS E [.tmp 4] (downS Q))) : CallS E B 140 args σ Q :=
  S_callK hB [] rfl rfl rfl (by kernel_rfl) rfl rfl (by kernel_rfl) hl h
/-- towncrier/prop.ground$1 -/
theorem call141 {args : List Value} {σ : AHeap} {Q : Value → AHeap → Prop} (hl : args.length ≤ 8) (h : CodeS E B (strip [] (bodyOf Tryd.f141)) (L 8 (ofL args)) σ (outS E [.tmp 3] (downS Q))) : CallS E B 141 args σ Q :=
  S_callK hB [] rfl rfl rfl (by kernel_rfl) rfl rfl (by kernel_rfl) hl h
/-- towncrier/prop.numbered -/
theorem call142 {args : List Value} {σ : AHeap} {Q : Value → AHeap → Prop} (hl : args.length ≤ 30) (h : CodeS E B (strip [] (bodyOf Tryd.f142)) (L 30 (ofL args)) σ (outS E [.tmp 2] (downS Q))) : CallS E B 142 args σ Q :=
  S_callK hB [] rfl rfl rfl (by kernel_rfl) rfl rfl (by kernel_rfl) hl h
/-- towncrier/store.message -/
theorem call143 {args : List Value} {σ : AHeap} {Q : Value → AHeap → Prop} (hl : args.length ≤ 51) (h : CodeS E B (strip [] (bodyOf Tryd.f143)) (L 51 (ofL args)) σ (outS E [.tmp 4] (downS Q))) : CallS E B 143 args σ Q :=
  S_callK hB [] rfl rfl rfl (by kernel_rfl) rfl rfl (by kernel_rfl) hl h
/-- towncrier/store.Rewrite$1 -/
theorem call144 {args : List Value} {σ : AHeap} {Q : Value → AHeap → Prop} (hl : args.length ≤ 16) (h : CodeS E B (strip [] (bodyOf Tryd.f144)) (L 16 (ofL args)) σ (outS E [] (downS Q))) : CallS E B 144 args σ Q :=
  S_callK hB [] rfl rfl rfl (by kernel_rfl) rfl rfl (by kernel_rfl) hl h
/-- errors.as -/
theorem call148 {args : List Value} {σ : AHeap} {Q : Value → AHeap → Prop} (hl : args.length ≤ 62) (h : CodeS E B (strip [] (bodyOf Tryd.f148)) (L 62 (ofL args)) σ (outS E [.tmp 8] (downS Q))) : CallS E B 148 args σ Q :=
  S_callK hB [] rfl rfl rfl (by kernel_rfl) rfl rfl (by kernel_rfl) hl h
/-- (*towncrier/towncrierref04.Reader).fail -/
theorem call149 {args : List Value} {σ : AHeap} {Q : Value → AHeap → Prop} (hl : args.length ≤ 14) (h : CodeS E B (strip [] (bodyOf Tryd.f149)) (L 14 (ofL args)) σ (outS E [] (downS Q))) : CallS E B 149 args σ Q :=
  S_callK hB [] rfl rfl rfl (by kernel_rfl) rfl rfl (by kernel_rfl) hl h
/-- towncrier/utf.Letters -/
theorem call150 {args : List Value} {σ : AHeap} {Q : Value → AHeap → Prop} (hl : args.length ≤ 24) (h : CodeS E B (strip [] (bodyOf Tryd.f150)) (L 24 (ofL args)) σ (outS E [.tmp 2, .tmp 3] (downS Q))) : CallS E B 150 args σ Q :=
  S_callK hB [] rfl rfl rfl (by kernel_rfl) rfl rfl (by kernel_rfl) hl h
/-- towncrier/utf.Letters -/
theorem wcall150 {args : List Value} {H : AHeap} {Q : Value → AHeap → Prop} (hl : args.length ≤ 24) (h : CodeW E (strip [] (bodyOf Tryd.f150)) (L 24 (ofL args))  H (retQ E [.tmp 2, .tmp 3] Q)) : CallW E 150 args H Q :=
  W_callK [] rfl rfl rfl (by kernel_rfl) rfl rfl (by kernel_rfl) hl h
/-- towncrier/fault.hold -/
theorem call151 {args : List Value} {σ : AHeap} {Q : Value → AHeap → Prop} (hl : args.length ≤ 11) (h : CodeS E B (strip [] (bodyOf Tryd.f151)) (L 11 (ofL args)) σ (outS E [.tmp 4] (downS Q))) : CallS E B 151 args σ Q :=
  S_callK hB [] rfl rfl rfl (by kernel_rfl) rfl rfl (by kernel_rfl) hl h
/-- towncrier/fault.hold -/
theorem wcall151 {args : List Value} {H : AHeap} {Q : Value → AHeap → Prop} (hl : args.length ≤ 11) (h : CodeW E (strip [] (bodyOf Tryd.f151)) (L 11 (ofL args))  H (retQ E [.tmp 4] Q)) : CallW E 151 args H Q :=
  W_callK [] rfl rfl rfl (by kernel_rfl) rfl rfl (by kernel_rfl) hl h
/-- slices.Contains[[]int,int] -/
theorem call152 {args : List Value} {σ : AHeap} {Q : Value → AHeap → Prop} (hl : args.length ≤ 9) (h : CodeS E B (strip [] (bodyOf Tryd.f152)) (L 9 (ofL args)) σ (outS E [.tmp 4] (downS Q))) : CallS E B 152 args σ Q :=
  S_callK hB [] rfl rfl rfl (by kernel_rfl) rfl rfl (by kernel_rfl) hl h
/-- towncrier/utf.walk -/
theorem call155 {args : List Value} {σ : AHeap} {Q : Value → AHeap → Prop} (hl : args.length ≤ 24) (h : CodeS E B (strip [] (bodyOf Tryd.f155)) (L 24 (ofL args)) σ (outS E [.tmp 2, .tmp 3] (downS Q))) : CallS E B 155 args σ Q :=
  S_callK hB [] rfl rfl rfl (by kernel_rfl) rfl rfl (by kernel_rfl) hl h
/-- towncrier/utf.walk -/
theorem wcall155 {args : List Value} {H : AHeap} {Q : Value → AHeap → Prop} (hl : args.length ≤ 24) (h : CodeW E (strip [] (bodyOf Tryd.f155)) (L 24 (ofL args))  H (retQ E [.tmp 2, .tmp 3] Q)) : CallW E 155 args H Q :=
  W_callK [] rfl rfl rfl (by kernel_rfl) rfl rfl (by kernel_rfl) hl h
/-- slices.Index[[]int,int] -/
theorem call156 {args : List Value} {σ : AHeap} {Q : Value → AHeap → Prop} (hl : args.length ≤ 19) (h : CodeS E B (strip [] (bodyOf Tryd.f156)) (L 19 (ofL args)) σ (outS E [.tmp 4] (downS Q))) : CallS E B 156 args σ Q :=
  S_callK hB [] rfl rfl rfl (by kernel_rfl) rfl rfl (by kernel_rfl) hl h
/-- towncrier/utf.first -/
theorem call157 {args : List Value} {σ : AHeap} {Q : Value → AHeap → Prop} (hl : args.length ≤ 56) (h : CodeS E B (strip [] (bodyOf Tryd.f157)) (L 56 (ofL args)) σ (outS E [.tmp 2] (downS Q))) : CallS E B 157 args σ Q :=
  S_callK hB [] rfl rfl rfl (by kernel_rfl) rfl rfl (by kernel_rfl) hl h
/-- towncrier/utf.first -/
theorem wcall157 {args : List Value} {H : AHeap} {Q : Value → AHeap → Prop} (hl : args.length ≤ 56) (h : CodeW E (strip [] (bodyOf Tryd.f157)) (L 56 (ofL args))  H (retQ E [.tmp 2] Q)) : CallW E 157 args H Q :=
  W_callK [] rfl rfl rfl (by kernel_rfl) rfl rfl (by kernel_rfl) hl h
/-- towncrier/utf.shape -/
theorem call158 {args : List Value} {σ : AHeap} {Q : Value → AHeap → Prop} (hl : args.length ≤ 44) (h : CodeS E B (strip [] (bodyOf Tryd.f158)) (L 44 (ofL args)) σ (outS E [.tmp 2, .tmp 3, .tmp 4] (downS Q))) : CallS E B 158 args σ Q :=
  S_callK hB [] rfl rfl rfl (by kernel_rfl) rfl rfl (by kernel_rfl) hl h
/-- towncrier/utf.shape -/
theorem wcall158 {args : List Value} {H : AHeap} {Q : Value → AHeap → Prop} (hl : args.length ≤ 44) (h : CodeW E (strip [] (bodyOf Tryd.f158)) (L 44 (ofL args))  H (retQ E [.tmp 2, .tmp 3, .tmp 4] Q)) : CallW E 158 args H Q :=
  W_callK [] rfl rfl rfl (by kernel_rfl) rfl rfl (by kernel_rfl) hl h
/-- (*towncrier/fault.Fault).Unwrap -/
theorem call177 {args : List Value} {σ : AHeap} {Q : Value → AHeap → Prop} (hl : args.length ≤ 9) (h : CodeS E B (strip [] (bodyOf Tryd.f177)) (L 9 (ofL args)) σ (outS E [.tmp 2] (downS Q))) : CallS E B 177 args σ Q :=
  S_callK hB [] rfl rfl rfl (by kernel_rfl) rfl rfl (by kernel_rfl) hl h
/-- errors.New -/
theorem call194 {args : List Value} {σ : AHeap} {Q : Value → AHeap → Prop} (hl : args.length ≤ 7) (h : CodeS E B (strip [] (bodyOf Tryd.f194)) (L 7 (ofL args)) σ (outS E [.tmp 2] (downS Q))) : CallS E B 194 args σ Q :=
  S_callK hB [] rfl rfl rfl (by kernel_rfl) rfl rfl (by kernel_rfl) hl h
/-- gosem.cut.vars -/
theorem call205 {args : List Value} {σ : AHeap} {Q : Value → AHeap → Prop} (hl : args.length ≤ 10) (h : CodeS E B (strip [] (bodyOf Tryd.f205)) (L 10 (ofL args)) σ (outS E [] (downS Q))) : CallS E B 205 args σ Q :=
  S_callK hB [] rfl rfl rfl (by kernel_rfl) rfl rfl (by kernel_rfl) hl h
end Go.Proofs.YtccimdfmddomaaaDoor.AbsA
