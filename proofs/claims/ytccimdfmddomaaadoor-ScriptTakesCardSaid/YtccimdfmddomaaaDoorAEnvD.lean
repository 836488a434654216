/-
  A part of a law's proof.
-/
import Derived.Test.YtccimdfmddomaaaDoorAEnvC
namespace Go.Proofs.YtccimdfmddomaaaDoor.AbsA
open Go AbsYtccimdfmddomaaaDoor Abs
set_option maxRecDepth 100000
set_option maxHeartbeats 4000000
/-- towncrier/towncrierlaw43.ScriptTakes -/
theorem call7 {args : List Value} {σ : AHeap} {Q : Value → AHeap → Prop} (hl : args.length ≤ 41) (h : CodeS E B (strip [] (bodyOf Tryd.f7)) (L 41 (ofL args)) σ (outS E [.tmp 2] (downS Q))) : CallS E B 7 args σ Q :=
  S_callK hB [] rfl rfl rfl (by kernel_rfl) rfl rfl (by kernel_rfl) hl h
/-- towncrier/script.Take -/
theorem call14 {args : List Value} {σ : AHeap} {Q : Value → AHeap → Prop} (hl : args.length ≤ 34) (h : CodeS E B (strip [] (bodyOf Tryd.f14)) (L 34 (ofL args)) σ (outS E [.cell 2 23, .tmp 3, .tmp 4] (downS Q))) : CallS E B 14 args σ Q :=
  S_callK hB [] rfl rfl rfl (by kernel_rfl) rfl rfl (by kernel_rfl) hl h
/-- towncrier/towncrierref43.Same -/
theorem call15 {args : List Value} {σ : AHeap} {Q : Value → AHeap → Prop} (hl : args.length ≤ 32) (h : CodeS E B (strip [] (bodyOf Tryd.f15)) (L 32 (ofL args)) σ (outS E [.tmp 4] (downS Q))) : CallS E B 15 args σ Q :=
  S_callK hB [] rfl rfl rfl (by kernel_rfl) rfl rfl (by kernel_rfl) hl h
/-- towncrier/towncrierref43.Take -/
theorem call30 {args : List Value} {σ : AHeap} {Q : Value → AHeap → Prop} (hl : args.length ≤ 117) (h : CodeS E B (strip [10, 33] (bodyOf Tryd.f30)) (L 117 (ofL args)) σ (outS E [.cell 2 23, .tmp 3, .cell 4 40] (downS Q))) : CallS E B 30 args σ Q :=
  S_callK hB [10, 33] rfl rfl rfl (by kernel_rfl) rfl rfl (by kernel_rfl) hl h
/-- towncrier/towncrierlaw43.same -/
theorem call31 {args : List Value} {σ : AHeap} {Q : Value → AHeap → Prop} (hl : args.length ≤ 29) (h : CodeS E B (strip [1] (bodyOf Tryd.f31)) (L 29 (ofL args)) σ (outS E [.tmp 4] (downS Q))) : CallS E B 31 args σ Q :=
  S_callK hB [1] rfl rfl rfl (by kernel_rfl) rfl rfl (by kernel_rfl) hl h
/-- towncrier/field.New -/
theorem call36 {args : List Value} {σ : AHeap} {Q : Value → AHeap → Prop} (hl : args.length ≤ 6) (h : CodeS E B (strip [] (bodyOf Tryd.f36)) (L 6 (ofL args)) σ (outS E [.tmp 2] (downS Q))) : CallS E B 36 args σ Q :=
  S_callK hB [] rfl rfl rfl (by kernel_rfl) rfl rfl (by kernel_rfl) hl h
/-- (*towncrier/field.Reader).Done -/
theorem call38 {args : List Value} {σ : AHeap} {Q : Value → AHeap → Prop} (hl : args.length ≤ 19) (h : CodeS E B (strip [] (bodyOf Tryd.f38)) (L 19 (ofL args)) σ (outS E [.tmp 2] (downS Q))) : CallS E B 38 args σ Q :=
  S_callK hB [] rfl rfl rfl (by kernel_rfl) rfl rfl (by kernel_rfl) hl h
/-- (*towncrier/field.Reader).Left -/
theorem call39 {args : List Value} {σ : AHeap} {Q : Value → AHeap → Prop} (hl : args.length ≤ 15) (h : CodeS E B (strip [] (bodyOf Tryd.f39)) (L 15 (ofL args)) σ (outS E [.tmp 2] (downS Q))) : CallS E B 39 args σ Q :=
  S_callK hB [] rfl rfl rfl (by kernel_rfl) rfl rfl (by kernel_rfl) hl h
/-- towncrier/fault.Number -/
theorem call40 {args : List Value} {σ : AHeap} {Q : Value → AHeap → Prop} (hl : args.length ≤ 27) (h : CodeS E B (strip [] (bodyOf Tryd.f40)) (L 27 (ofL args)) σ (outS E [.tmp 2] (downS Q))) : CallS E B 40 args σ Q :=
  S_callK hB [] rfl rfl rfl (by kernel_rfl) rfl rfl (by kernel_rfl) hl h
/-- (*towncrier/field.Reader).Err -/
theorem call41 {args : List Value} {σ : AHeap} {Q : Value → AHeap → Prop} (hl : args.length ≤ 9) (h : CodeS E B (strip [] (bodyOf Tryd.f41)) (L 9 (ofL args)) σ (outS E [.tmp 2] (downS Q))) : CallS E B 41 args σ Q :=
  S_callK hB [] rfl rfl rfl (by kernel_rfl) rfl rfl (by kernel_rfl) hl h
/-- (*towncrier/field.Reader).At -/
theorem call49 {args : List Value} {σ : AHeap} {Q : Value → AHeap → Prop} (hl : args.length ≤ 9) (h : CodeS E B (strip [] (bodyOf Tryd.f49)) (L 9 (ofL args)) σ (outS E [.tmp 2] (downS Q))) : CallS E B 49 args σ Q :=
  S_callK hB [] rfl rfl rfl (by kernel_rfl) rfl rfl (by kernel_rfl) hl h
/-- towncrier/terms.Check -/
theorem call55 {args : List Value} {σ : AHeap} {Q : Value → AHeap → Prop} (hl : args.length ≤ 29) (h : CodeS E B (strip [] (bodyOf Tryd.f55)) (L 29 (ofL args)) σ (outS E [.tmp 2] (downS Q))) : CallS E B 55 args σ Q :=
  S_callK hB [] rfl rfl rfl (by kernel_rfl) rfl rfl (by kernel_rfl) hl h
/-- towncrier/fault.New -/
theorem call56 {args : List Value} {σ : AHeap} {Q : Value → AHeap → Prop} (hl : args.length ≤ 15) (h : CodeS E B (strip [] (bodyOf Tryd.f56)) (L 15 (ofL args)) σ (outS E [.tmp 6] (downS Q))) : CallS E B 56 args σ Q :=
  S_callK hB [] rfl rfl rfl (by kernel_rfl) rfl rfl (by kernel_rfl) hl h
/-- towncrier/script.may -/
theorem call61 {args : List Value} {σ : AHeap} {Q : Value → AHeap → Prop} (hl : args.length ≤ 9) (h : CodeS E B (strip [] (bodyOf Tryd.f61)) (L 9 (ofL args)) σ (outS E [.tmp 2] (downS Q))) : CallS E B 61 args σ Q :=
  S_callK hB [] rfl rfl rfl (by kernel_rfl) rfl rfl (by kernel_rfl) hl h
/-- towncrier/script.head -/
theorem call64 {args : List Value} {σ : AHeap} {Q : Value → AHeap → Prop} (hl : args.length ≤ 45) (h : CodeS E B (strip [10, 11] (bodyOf Tryd.f64)) (L 45 (ofL args)) σ (outS E [.cell 2 23, .tmp 3, .tmp 4] (downS Q))) : CallS E B 64 args σ Q :=
  S_callK hB [10, 11] rfl rfl rfl (by kernel_rfl) rfl rfl (by kernel_rfl) hl h
/-- towncrier/script.events -/
theorem call65 {args : List Value} {σ : AHeap} {Q : Value → AHeap → Prop} (hl : args.length ≤ 28) (h : CodeS E B (strip [] (bodyOf Tryd.f65)) (L 28 (ofL args)) σ (outS E [.tmp 4, .tmp 5] (downS Q))) : CallS E B 65 args σ Q :=
  S_callK hB [] rfl rfl rfl (by kernel_rfl) rfl rfl (by kernel_rfl) hl h
/-- towncrier/fault.Reason -/
theorem call68 {args : List Value} {σ : AHeap} {Q : Value → AHeap → Prop} (hl : args.length ≤ 13) (h : CodeS E B (strip [] (bodyOf Tryd.f68)) (L 13 (ofL args)) σ (outS E [.tmp 2] (downS Q))) : CallS E B 68 args σ Q :=
  S_callK hB [] rfl rfl rfl (by kernel_rfl) rfl rfl (by kernel_rfl) hl h
/-- towncrier/fault.At -/
theorem call69 {args : List Value} {σ : AHeap} {Q : Value → AHeap → Prop} (hl : args.length ≤ 15) (h : CodeS E B (strip [] (bodyOf Tryd.f69)) (L 15 (ofL args)) σ (outS E [.tmp 2] (downS Q))) : CallS E B 69 args σ Q :=
  S_callK hB [] rfl rfl rfl (by kernel_rfl) rfl rfl (by kernel_rfl) hl h
/-- (*towncrier/towncrierref04.Reader).Raw -/
theorem call74 {args : List Value} {σ : AHeap} {Q : Value → AHeap → Prop} (hl : args.length ≤ 14) (h : CodeS E B (strip [] (bodyOf Tryd.f74)) (L 14 (ofL args)) σ (outS E [.tmp 4] (downS Q))) : CallS E B 74 args σ Q :=
  S_callK hB [] rfl rfl rfl (by kernel_rfl) rfl rfl (by kernel_rfl) hl h
/-- towncrier/towncrierref43.config -/
theorem call75 {args : List Value} {σ : AHeap} {Q : Value → AHeap → Prop} (hl : args.length ≤ 45) (h : CodeS E B (strip [] (bodyOf Tryd.f75)) (L 45 (ofL args)) σ (outS E [.cell 2 23] (downS Q))) : CallS E B 75 args σ Q :=
  S_callK hB [] rfl rfl rfl (by kernel_rfl) rfl rfl (by kernel_rfl) hl h
/-- towncrier/towncrierref43.of -/
theorem call76 {args : List Value} {σ : AHeap} {Q : Value → AHeap → Prop} (hl : args.length ≤ 16) (h : CodeS E B (strip [] (bodyOf Tryd.f76)) (L 16 (ofL args)) σ (outS E [.cell 2 40] (downS Q))) : CallS E B 76 args σ Q :=
  S_callK hB [] rfl rfl rfl (by kernel_rfl) rfl rfl (by kernel_rfl) hl h
/-- towncrier/towncrierref28.Check -/
theorem call77 {args : List Value} {σ : AHeap} {Q : Value → AHeap → Prop} (hl : args.length ≤ 59) (h : CodeS E B (strip [] (bodyOf Tryd.f77)) (L 59 (ofL args)) σ (outS E [.cell 2 40] (downS Q))) : CallS E B 77 args σ Q :=
  S_callK hB [] rfl rfl rfl (by kernel_rfl) rfl rfl (by kernel_rfl) hl h
/-- (*towncrier/towncrierref04.Reader).U16 -/
theorem call78 {args : List Value} {σ : AHeap} {Q : Value → AHeap → Prop} (hl : args.length ≤ 5) (h : CodeS E B (strip [] (bodyOf Tryd.f78)) (L 5 (ofL args)) σ (outS E [.tmp 2] (downS Q))) : CallS E B 78 args σ Q :=
  S_callK hB [] rfl rfl rfl (by kernel_rfl) rfl rfl (by kernel_rfl) hl h
/-- (*towncrier/towncrierref04.Reader).U8 -/
theorem call79 {args : List Value} {σ : AHeap} {Q : Value → AHeap → Prop} (hl : args.length ≤ 5) (h : CodeS E B (strip [] (bodyOf Tryd.f79)) (L 5 (ofL args)) σ (outS E [.tmp 2] (downS Q))) : CallS E B 79 args σ Q :=
  S_callK hB [] rfl rfl rfl (by kernel_rfl) rfl rfl (by kernel_rfl) hl h
/-- (*towncrier/towncrierref04.Reader).U32 -/
theorem call80 {args : List Value} {σ : AHeap} {Q : Value → AHeap → Prop} (hl : args.length ≤ 5) (h : CodeS E B (strip [] (bodyOf Tryd.f80)) (L 5 (ofL args)) σ (outS E [.tmp 2] (downS Q))) : CallS E B 80 args σ Q :=
  S_callK hB [] rfl rfl rfl (by kernel_rfl) rfl rfl (by kernel_rfl) hl h
/-- (*towncrier/towncrierref04.Reader).Bin -/
theorem call81 {args : List Value} {σ : AHeap} {Q : Value → AHeap → Prop} (hl : args.length ≤ 23) (h : CodeS E B (strip [] (bodyOf Tryd.f81)) (L 23 (ofL args)) σ (outS E [.tmp 2] (downS Q))) : CallS E B 81 args σ Q :=
  S_callK hB [] rfl rfl rfl (by kernel_rfl) rfl rfl (by kernel_rfl) hl h
/-- towncrier/towncrierref43.may -/
theorem call82 {args : List Value} {σ : AHeap} {Q : Value → AHeap → Prop} (hl : args.length ≤ 9) (h : CodeS E B (strip [] (bodyOf Tryd.f82)) (L 9 (ofL args)) σ (outS E [.tmp 2] (downS Q))) : CallS E B 82 args σ Q :=
  S_callK hB [] rfl rfl rfl (by kernel_rfl) rfl rfl (by kernel_rfl) hl h
/-- (*towncrier/field.Reader).U16 -/
theorem call84 {args : List Value} {σ : AHeap} {Q : Value → AHeap → Prop} (hl : args.length ≤ 5) (h : CodeS E B (strip [] (bodyOf Tryd.f84)) (L 5 (ofL args)) σ (outS E [.tmp 2] (downS Q))) : CallS E B 84 args σ Q :=
  S_callK hB [] rfl rfl rfl (by kernel_rfl) rfl rfl (by kernel_rfl) hl h
/-- (*towncrier/field.Reader).U32 -/
theorem call86 {args : List Value} {σ : AHeap} {Q : Value → AHeap → Prop} (hl : args.length ≤ 5) (h : CodeS E B (strip [] (bodyOf Tryd.f86)) (L 5 (ofL args)) σ (outS E [.tmp 2] (downS Q))) : CallS E B 86 args σ Q :=
  S_callK hB [] rfl rfl rfl (by kernel_rfl) rfl rfl (by kernel_rfl) hl h
/-- (*towncrier/field.Reader).U8 -/
theorem call89 {args : List Value} {σ : AHeap} {Q : Value → AHeap → Prop} (hl : args.length ≤ 5) (h : CodeS E B (strip [] (bodyOf Tryd.f89)) (L 5 (ofL args)) σ (outS E [.tmp 2] (downS Q))) : CallS E B 89 args σ Q :=
  S_callK hB [] rfl rfl rfl (by kernel_rfl) rfl rfl (by kernel_rfl) hl h
/-- (*towncrier/field.Reader).Bin -/
theorem call91 {args : List Value} {σ : AHeap} {Q : Value → AHeap → Prop} (hl : args.length ≤ 15) (h : CodeS E B (strip [] (bodyOf Tryd.f91)) (L 15 (ofL args)) σ (outS E [.tmp 2] (downS Q))) : CallS E B 91 args σ Q :=
  S_callK hB [] rfl rfl rfl (by kernel_rfl) rfl rfl (by kernel_rfl) hl h
/-- (*towncrier/field.Reader).Raw -/
theorem call92 {args : List Value} {σ : AHeap} {Q : Value → AHeap → Prop} (hl : args.length ≤ 68) (h : CodeS E B (strip [] (bodyOf Tryd.f92)) (L 68 (ofL args)) σ (outS E [.tmp 4] (downS Q))) : CallS E B 92 args σ Q :=
  S_callK hB [] rfl rfl rfl (by kernel_rfl) rfl rfl (by kernel_rfl) hl h
/-- towncrier/terms.bounds -/
theorem call114 {args : List Value} {σ : AHeap} {Q : Value → AHeap → Prop} (hl : args.length ≤ 43) (h : CodeS E B (strip [] (bodyOf Tryd.f114)) (L 43 (ofL args)) σ (outS E [.tmp 2] (downS Q))) : CallS E B 114 args σ Q :=
  S_callK hB [] rfl rfl rfl (by kernel_rfl) rfl rfl (by kernel_rfl) hl h
/-- towncrier/script.config -/
theorem call117 {args : List Value} {σ : AHeap} {Q : Value → AHeap → Prop} (hl : args.length ≤ 52) (h : CodeS E B (strip [11] (bodyOf Tryd.f117)) (L 52 (ofL args)) σ (outS E [.cell 2 23, .tmp 3] (downS Q))) : CallS E B 117 args σ Q :=
  S_callK hB [11] rfl rfl rfl (by kernel_rfl) rfl rfl (by kernel_rfl) hl h
/-- towncrier/script.event -/
theorem call118 {args : List Value} {σ : AHeap} {Q : Value → AHeap → Prop} (hl : args.length ≤ 33) (h : CodeS E B (strip [4, 5] (bodyOf Tryd.f118)) (L 33 (ofL args)) σ (outS E [.cell 2 104, .tmp 3] (downS Q))) : CallS E B 118 args σ Q :=
  S_callK hB [4, 5] rfl rfl rfl (by kernel_rfl) rfl rfl (by kernel_rfl) hl h
/-- (*towncrier/towncrierref04.Reader).take -/
theorem call122 {args : List Value} {σ : AHeap} {Q : Value → AHeap → Prop} (hl : args.length ≤ 64) (h : CodeS E B (strip [] (bodyOf Tryd.f122)) (L 64 (ofL args)) σ (outS E [.tmp 4, .tmp 5] (downS Q))) : CallS E B 122 args σ Q :=
  S_callK hB [] rfl rfl rfl (by kernel_rfl) rfl rfl (by kernel_rfl) hl h
/-- (*towncrier/towncrierref04.Reader).Done -/
theorem call123 {args : List Value} {σ : AHeap} {Q : Value → AHeap → Prop} (hl : args.length ≤ 33) (h : CodeS E B (strip [] (bodyOf Tryd.f123)) (L 33 (ofL args)) σ (outS E [.tmp 2, .tmp 3] (downS Q))) : CallS E B 123 args σ Q :=
  S_callK hB [] rfl rfl rfl (by kernel_rfl) rfl rfl (by kernel_rfl) hl h
/-- (*towncrier/towncrierref04.Reader).number -/
theorem call124 {args : List Value} {σ : AHeap} {Q : Value → AHeap → Prop} (hl : args.length ≤ 32) (h : CodeS E B (strip [] (bodyOf Tryd.f124)) (L 32 (ofL args)) σ (outS E [.tmp 4] (downS Q))) : CallS E B 124 args σ Q :=
  S_callK hB [] rfl rfl rfl (by kernel_rfl) rfl rfl (by kernel_rfl) hl h
/-- (*towncrier/field.Reader).number -/
theorem call127 {args : List Value} {σ : AHeap} {Q : Value → AHeap → Prop} (hl : args.length ≤ 24) (h : CodeS E B (strip [] (bodyOf Tryd.f127)) (L 24 (ofL args)) σ (outS E [.tmp 4] (downS Q))) : CallS E B 127 args σ Q :=
  S_callK hB [] rfl rfl rfl (by kernel_rfl) rfl rfl (by kernel_rfl) hl h
/-- (*towncrier/field.Reader).off -/
theorem call128 {args : List Value} {σ : AHeap} {Q : Value → AHeap → Prop} (hl : args.length ≤ 12) (h : CodeS E B (strip [] (bodyOf Tryd.f128)) (L 12 (ofL args)) σ (outS E [.tmp 2] (downS Q))) : CallS E B 128 args σ Q :=
  S_callK hB [] rfl rfl rfl (by kernel_rfl) rfl rfl (by kernel_rfl) hl h
/-- (*towncrier/field.Reader).back -/
theorem call129 {args : List Value} {σ : AHeap} {Q : Value → AHeap → Prop} (hl : args.length ≤ 17) (h : CodeS E B (strip [] (bodyOf Tryd.f129)) (L 17 (ofL args)) σ (outS E [] (downS Q))) : CallS E B 129 args σ Q :=
  S_callK hB [] rfl rfl rfl (by kernel_rfl) rfl rfl (by kernel_rfl) hl h
/-- (*towncrier/towncrierref04.Reader).fail -/
theorem call149 {args : List Value} {σ : AHeap} {Q : Value → AHeap → Prop} (hl : args.length ≤ 14) (h : CodeS E B (strip [] (bodyOf Tryd.f149)) (L 14 (ofL args)) σ (outS E [] (downS Q))) : CallS E B 149 args σ Q :=
  S_callK hB [] rfl rfl rfl (by kernel_rfl) rfl rfl (by kernel_rfl) hl h
end Go.Proofs.YtccimdfmddomaaaDoor.AbsA
