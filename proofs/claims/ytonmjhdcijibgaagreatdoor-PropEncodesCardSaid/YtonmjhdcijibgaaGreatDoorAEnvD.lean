/-
  A part of a law's proof.
-/
import Derived.Test.YtonmjhdcijibgaaGreatDoorAEnvC
namespace Go.Proofs.YtonmjhdcijibgaaGreatDoor.AbsA
open Go AbsYtonmjhdcijibgaaGreatDoor Abs
set_option maxRecDepth 100000
set_option maxHeartbeats 4000000
/-- towncrier/towncrierlaw06.PropEncodes -/
theorem call4 {args : List Value} {σ : AHeap} {Q : Value → AHeap → Prop} (hl : args.length ≤ 45) (h : CodeS E B (strip [] (bodyOf Tryz.f4)) (L 45 (ofL args)) σ (outS E [.tmp 4] (downS Q))) : CallS E B 4 args σ Q :=
  S_callK hB [] rfl rfl rfl (by kernel_rfl) rfl rfl (by kernel_rfl) hl h
/-- towncrier/towncrierref06.Few -/
theorem call11 {args : List Value} {σ : AHeap} {Q : Value → AHeap → Prop} (hl : args.length ≤ 33) (h : CodeS E B (strip [] (bodyOf Tryz.f11)) (L 33 (ofL args)) σ (outS E [.tmp 2] (downS Q))) : CallS E B 11 args σ Q :=
  S_callK hB [] rfl rfl rfl (by kernel_rfl) rfl rfl (by kernel_rfl) hl h
/-- towncrier/prop.Type -/
theorem call15 {args : List Value} {σ : AHeap} {Q : Value → AHeap → Prop} (hl : args.length ≤ 38) (h : CodeS E B (strip [] (bodyOf Tryz.f15)) (L 38 (ofL args)) σ (outS E [.tmp 2] (downS Q))) : CallS E B 15 args σ Q :=
  S_callK hB [] rfl rfl rfl (by kernel_rfl) rfl rfl (by kernel_rfl) hl h
/-- towncrier/towncrierref06.Type -/
theorem call16 {args : List Value} {σ : AHeap} {Q : Value → AHeap → Prop} (hl : args.length ≤ 38) (h : CodeS E B (strip [] (bodyOf Tryz.f16)) (L 38 (ofL args)) σ (outS E [.tmp 2] (downS Q))) : CallS E B 16 args σ Q :=
  S_callK hB [] rfl rfl rfl (by kernel_rfl) rfl rfl (by kernel_rfl) hl h
/-- towncrier/prop.Allowed -/
theorem call17 {args : List Value} {σ : AHeap} {Q : Value → AHeap → Prop} (hl : args.length ≤ 114) (h : CodeS E B (strip [] (bodyOf Tryz.f17)) (L 114 (ofL args)) σ (outS E [.tmp 4] (downS Q))) : CallS E B 17 args σ Q :=
  S_callK hB [] rfl rfl rfl (by kernel_rfl) rfl rfl (by kernel_rfl) hl h
/-- towncrier/towncrierref06.Allowed -/
theorem call18 {args : List Value} {σ : AHeap} {Q : Value → AHeap → Prop} (hl : args.length ≤ 21) (h : CodeS E B (strip [] (bodyOf Tryz.f18)) (L 21 (ofL args)) σ (outS E [.tmp 4] (downS Q))) : CallS E B 18 args σ Q :=
  S_callK hB [] rfl rfl rfl (by kernel_rfl) rfl rfl (by kernel_rfl) hl h
/-- towncrier/prop.Encode -/
theorem call24 {args : List Value} {σ : AHeap} {Q : Value → AHeap → Prop} (hl : args.length ≤ 52) (h : CodeS E B (strip [] (bodyOf Tryz.f24)) (L 52 (ofL args)) σ (outS E [.tmp 4, .tmp 5] (downS Q))) : CallS E B 24 args σ Q :=
  S_callK hB [] rfl rfl rfl (by kernel_rfl) rfl rfl (by kernel_rfl) hl h
/-- towncrier/towncrierref06.Encode -/
theorem call25 {args : List Value} {σ : AHeap} {Q : Value → AHeap → Prop} (hl : args.length ≤ 92) (h : CodeS E B (strip [21] (bodyOf Tryz.f25)) (L 92 (ofL args)) σ (outS E [.tmp 4, .cell 5 41] (downS Q))) : CallS E B 25 args σ Q :=
  S_callK hB [21] rfl rfl rfl (by kernel_rfl) rfl rfl (by kernel_rfl) hl h
/-- towncrier/towncrierlaw06.same -/
theorem call26 {args : List Value} {σ : AHeap} {Q : Value → AHeap → Prop} (hl : args.length ≤ 29) (h : CodeS E B (strip [1] (bodyOf Tryz.f26)) (L 29 (ofL args)) σ (outS E [.tmp 4] (downS Q))) : CallS E B 26 args σ Q :=
  S_callK hB [1] rfl rfl rfl (by kernel_rfl) rfl rfl (by kernel_rfl) hl h
/-- towncrier/prop.Check -/
theorem call27 {args : List Value} {σ : AHeap} {Q : Value → AHeap → Prop} (hl : args.length ≤ 34) (h : CodeS E B (strip [] (bodyOf Tryz.f27)) (L 34 (ofL args)) σ (outS E [.tmp 4] (downS Q))) : CallS E B 27 args σ Q :=
  S_callK hB [] rfl rfl rfl (by kernel_rfl) rfl rfl (by kernel_rfl) hl h
/-- towncrier/towncrierref06.Check -/
theorem call28 {args : List Value} {σ : AHeap} {Q : Value → AHeap → Prop} (hl : args.length ≤ 45) (h : CodeS E B (strip [] (bodyOf Tryz.f28)) (L 45 (ofL args)) σ (outS E [.cell 4 41] (downS Q))) : CallS E B 28 args σ Q :=
  S_callK hB [] rfl rfl rfl (by kernel_rfl) rfl rfl (by kernel_rfl) hl h
/-- towncrier/fault.Number -/
theorem call51 {args : List Value} {σ : AHeap} {Q : Value → AHeap → Prop} (hl : args.length ≤ 27) (h : CodeS E B (strip [] (bodyOf Tryz.f51)) (L 27 (ofL args)) σ (outS E [.tmp 2] (downS Q))) : CallS E B 51 args σ Q :=
  S_callK hB [] rfl rfl rfl (by kernel_rfl) rfl rfl (by kernel_rfl) hl h
/-- towncrier/fault.At -/
theorem call52 {args : List Value} {σ : AHeap} {Q : Value → AHeap → Prop} (hl : args.length ≤ 15) (h : CodeS E B (strip [] (bodyOf Tryz.f52)) (L 15 (ofL args)) σ (outS E [.tmp 2] (downS Q))) : CallS E B 52 args σ Q :=
  S_callK hB [] rfl rfl rfl (by kernel_rfl) rfl rfl (by kernel_rfl) hl h
/-- slices.IndexFunc[[]towncrier/api.Prop,towncrier/api.Prop] -/
theorem call53 {args : List Value} {σ : AHeap} {Q : Value → AHeap → Prop} (hl : args.length ≤ 19) (h : CodeS E B (strip [] (bodyOf Tryz.f53)) (L 19 (ofL args)) σ (outS E [.tmp 4] (downS Q))) : CallS E B 53 args σ Q :=
  S_callK hB [] rfl rfl rfl (by kernel_rfl) rfl rfl (by kernel_rfl) hl h
/-- slices.Contains[[]int,int] -/
theorem call55 {args : List Value} {σ : AHeap} {Q : Value → AHeap → Prop} (hl : args.length ≤ 9) (h : CodeS E B (strip [] (bodyOf Tryz.f55)) (L 9 (ofL args)) σ (outS E [.tmp 4] (downS Q))) : CallS E B 55 args σ Q :=
  S_callK hB [] rfl rfl rfl (by kernel_rfl) rfl rfl (by kernel_rfl) hl h
/-- towncrier/towncrierref06.Places -/
theorem call56 {args : List Value} {σ : AHeap} {Q : Value → AHeap → Prop} (hl : args.length ≤ 55) (h : CodeS E B (strip [] (bodyOf Tryz.f56)) (L 55 (ofL args)) σ (outS E [.tmp 2] (downS Q))) : CallS E B 56 args σ Q :=
  S_callK hB [] rfl rfl rfl (by kernel_rfl) rfl rfl (by kernel_rfl) hl h
/-- towncrier/prop.write -/
theorem call60 {args : List Value} {σ : AHeap} {Q : Value → AHeap → Prop} (hl : args.length ≤ 57) (h : CodeS E B (strip [] (bodyOf Tryz.f60)) (L 57 (ofL args)) σ (outS E [] (downS Q))) : CallS E B 60 args σ Q :=
  S_callK hB [] rfl rfl rfl (by kernel_rfl) rfl rfl (by kernel_rfl) hl h
/-- (*towncrier/field.Writer).Bytes -/
theorem call61 {args : List Value} {σ : AHeap} {Q : Value → AHeap → Prop} (hl : args.length ≤ 20) (h : CodeS E B (strip [] (bodyOf Tryz.f61)) (L 20 (ofL args)) σ (outS E [.tmp 2, .tmp 3] (downS Q))) : CallS E B 61 args σ Q :=
  S_callK hB [] rfl rfl rfl (by kernel_rfl) rfl rfl (by kernel_rfl) hl h
/-- (*towncrier/field.Writer).Var -/
theorem call62 {args : List Value} {σ : AHeap} {Q : Value → AHeap → Prop} (hl : args.length ≤ 33) (h : CodeS E B (strip [] (bodyOf Tryz.f62)) (L 33 (ofL args)) σ (outS E [] (downS Q))) : CallS E B 62 args σ Q :=
  S_callK hB [] rfl rfl rfl (by kernel_rfl) rfl rfl (by kernel_rfl) hl h
/-- (*towncrier/field.Writer).Raw -/
theorem call63 {args : List Value} {σ : AHeap} {Q : Value → AHeap → Prop} (hl : args.length ≤ 16) (h : CodeS E B (strip [] (bodyOf Tryz.f63)) (L 16 (ofL args)) σ (outS E [] (downS Q))) : CallS E B 63 args σ Q :=
  S_callK hB [] rfl rfl rfl (by kernel_rfl) rfl rfl (by kernel_rfl) hl h
/-- (*towncrier/towncrierref04.Writer).Do -/
theorem call64 {args : List Value} {σ : AHeap} {Q : Value → AHeap → Prop} (hl : args.length ≤ 135) (h : CodeS E B (strip [9, 19, 23] (bodyOf Tryz.f64)) (L 135 (ofL args)) σ (outS E [] (downS Q))) : CallS E B 64 args σ Q :=
  S_callK hB [9, 19, 23] rfl rfl rfl (by kernel_rfl) rfl rfl (by kernel_rfl) hl h
/-- towncrier/towncrierref04.Var -/
theorem call65 {args : List Value} {σ : AHeap} {Q : Value → AHeap → Prop} (hl : args.length ≤ 11) (h : CodeS E B (strip [] (bodyOf Tryz.f65)) (L 11 (ofL args)) σ (outS E [.tmp 2] (downS Q))) : CallS E B 65 args σ Q :=
  S_callK hB [] rfl rfl rfl (by kernel_rfl) rfl rfl (by kernel_rfl) hl h
/-- towncrier/fault.Reason -/
theorem call66 {args : List Value} {σ : AHeap} {Q : Value → AHeap → Prop} (hl : args.length ≤ 13) (h : CodeS E B (strip [] (bodyOf Tryz.f66)) (L 13 (ofL args)) σ (outS E [.tmp 2] (downS Q))) : CallS E B 66 args σ Q :=
  S_callK hB [] rfl rfl rfl (by kernel_rfl) rfl rfl (by kernel_rfl) hl h
/-- towncrier/prop.ground -/
theorem call67 {args : List Value} {σ : AHeap} {Q : Value → AHeap → Prop} (hl : args.length ≤ 51) (h : CodeS E B (strip [] (bodyOf Tryz.f67)) (L 51 (ofL args)) σ (outS E [.tmp 8] (downS Q))) : CallS E B 67 args σ Q :=
  S_callK hB [] rfl rfl rfl (by kernel_rfl) rfl rfl (by kernel_rfl) hl h
/-- towncrier/prop.bad -/
theorem call68 {args : List Value} {σ : AHeap} {Q : Value → AHeap → Prop} (hl : args.length ≤ 10) (h : CodeS E B (strip [] (bodyOf Tryz.f68)) (L 10 (ofL args)) σ (outS E [.tmp 4] (downS Q))) : CallS E B 68 args σ Q :=
  S_callK hB [] rfl rfl rfl (by kernel_rfl) rfl rfl (by kernel_rfl) hl h
/-- towncrier/towncrierref06.ground -/
theorem call69 {args : List Value} {σ : AHeap} {Q : Value → AHeap → Prop} (hl : args.length ≤ 50) (h : CodeS E B (strip [] (bodyOf Tryz.f69)) (L 50 (ofL args)) σ (outS E [.cell 6 41] (downS Q))) : CallS E B 69 args σ Q :=
  S_callK hB [] rfl rfl rfl (by kernel_rfl) rfl rfl (by kernel_rfl) hl h
/-- towncrier/towncrierref06.numbered -/
theorem call70 {args : List Value} {σ : AHeap} {Q : Value → AHeap → Prop} (hl : args.length ≤ 30) (h : CodeS E B (strip [] (bodyOf Tryz.f70)) (L 30 (ofL args)) σ (outS E [.tmp 2] (downS Q))) : CallS E B 70 args σ Q :=
  S_callK hB [] rfl rfl rfl (by kernel_rfl) rfl rfl (by kernel_rfl) hl h
/-- towncrier/fault.New -/
theorem call72 {args : List Value} {σ : AHeap} {Q : Value → AHeap → Prop} (hl : args.length ≤ 15) (h : CodeS E B (strip [] (bodyOf Tryz.f72)) (L 15 (ofL args)) σ (outS E [.tmp 6] (downS Q))) : CallS E B 72 args σ Q :=
  S_callK hB [] rfl rfl rfl (by kernel_rfl) rfl rfl (by kernel_rfl) hl h
/-- towncrier/fault.New -/
theorem wcall72 {args : List Value} {H : AHeap} {Q : Value → AHeap → Prop} (hl : args.length ≤ 15) (h : CodeW E (strip [] (bodyOf Tryz.f72)) (L 15 (ofL args))  H (retQ E [.tmp 6] Q)) : CallW E 72 args H Q :=
  W_callK [] rfl rfl rfl (by kernel_rfl) rfl rfl (by kernel_rfl) hl h
/-- (*towncrier/field.Writer).U16 -/
theorem call73 {args : List Value} {σ : AHeap} {Q : Value → AHeap → Prop} (hl : args.length ≤ 7) (h : CodeS E B (strip [] (bodyOf Tryz.f73)) (L 7 (ofL args)) σ (outS E [] (downS Q))) : CallS E B 73 args σ Q :=
  S_callK hB [] rfl rfl rfl (by kernel_rfl) rfl rfl (by kernel_rfl) hl h
/-- (*towncrier/field.Writer).U8 -/
theorem call74 {args : List Value} {σ : AHeap} {Q : Value → AHeap → Prop} (hl : args.length ≤ 7) (h : CodeS E B (strip [] (bodyOf Tryz.f74)) (L 7 (ofL args)) σ (outS E [] (downS Q))) : CallS E B 74 args σ Q :=
  S_callK hB [] rfl rfl rfl (by kernel_rfl) rfl rfl (by kernel_rfl) hl h
/-- (*towncrier/field.Writer).Text -/
theorem call84 {args : List Value} {σ : AHeap} {Q : Value → AHeap → Prop} (hl : args.length ≤ 24) (h : CodeS E B (strip [] (bodyOf Tryz.f84)) (L 24 (ofL args)) σ (outS E [] (downS Q))) : CallS E B 84 args σ Q :=
  S_callK hB [] rfl rfl rfl (by kernel_rfl) rfl rfl (by kernel_rfl) hl h
/-- towncrier/fault.Deeper -/
theorem call104 {args : List Value} {σ : AHeap} {Q : Value → AHeap → Prop} (hl : args.length ≤ 17) (h : CodeS E B (strip [] (bodyOf Tryz.f104)) (L 17 (ofL args)) σ (outS E [.tmp 4] (downS Q))) : CallS E B 104 args σ Q :=
  S_callK hB [] rfl rfl rfl (by kernel_rfl) rfl rfl (by kernel_rfl) hl h
/-- slices.Index[[]int,int] -/
theorem call107 {args : List Value} {σ : AHeap} {Q : Value → AHeap → Prop} (hl : args.length ≤ 19) (h : CodeS E B (strip [] (bodyOf Tryz.f107)) (L 19 (ofL args)) σ (outS E [.tmp 4] (downS Q))) : CallS E B 107 args σ Q :=
  S_callK hB [] rfl rfl rfl (by kernel_rfl) rfl rfl (by kernel_rfl) hl h
/-- (*towncrier/field.Writer).U32 -/
theorem call108 {args : List Value} {σ : AHeap} {Q : Value → AHeap → Prop} (hl : args.length ≤ 7) (h : CodeS E B (strip [] (bodyOf Tryz.f108)) (L 7 (ofL args)) σ (outS E [] (downS Q))) : CallS E B 108 args σ Q :=
  S_callK hB [] rfl rfl rfl (by kernel_rfl) rfl rfl (by kernel_rfl) hl h
/-- (*towncrier/field.Writer).Bin -/
theorem call109 {args : List Value} {σ : AHeap} {Q : Value → AHeap → Prop} (hl : args.length ≤ 11) (h : CodeS E B (strip [] (bodyOf Tryz.f109)) (L 11 (ofL args)) σ (outS E [] (downS Q))) : CallS E B 109 args σ Q :=
  S_callK hB [] rfl rfl rfl (by kernel_rfl) rfl rfl (by kernel_rfl) hl h
/-- (*towncrier/field.Writer).first -/
theorem call110 {args : List Value} {σ : AHeap} {Q : Value → AHeap → Prop} (hl : args.length ≤ 9) (h : CodeS E B (strip [] (bodyOf Tryz.f110)) (L 9 (ofL args)) σ (outS E [.tmp 2] (downS Q))) : CallS E B 110 args σ Q :=
  S_callK hB [] rfl rfl rfl (by kernel_rfl) rfl rfl (by kernel_rfl) hl h
/-- (*towncrier/field.Writer).off -/
theorem call111 {args : List Value} {σ : AHeap} {Q : Value → AHeap → Prop} (hl : args.length ≤ 12) (h : CodeS E B (strip [] (bodyOf Tryz.f111)) (L 12 (ofL args)) σ (outS E [.tmp 2] (downS Q))) : CallS E B 111 args σ Q :=
  S_callK hB [] rfl rfl rfl (by kernel_rfl) rfl rfl (by kernel_rfl) hl h
/-- towncrier/varint.Put -/
theorem wcall112 {args : List Value} {H : AHeap} {Q : Value → AHeap → Prop} (hl : args.length ≤ 39) (h : CodeW E (strip [] (bodyOf Tryz.f112)) (L 39 (ofL args))  H (retQ E [.tmp 2, .tmp 3] Q)) : CallW E 112 args H Q :=
  W_callK [] rfl rfl rfl (by kernel_rfl) rfl rfl (by kernel_rfl) hl h
/-- (*towncrier/field.Writer).fail -/
theorem call113 {args : List Value} {σ : AHeap} {Q : Value → AHeap → Prop} (hl : args.length ≤ 8) (h : CodeS E B (strip [] (bodyOf Tryz.f113)) (L 8 (ofL args)) σ (outS E [] (downS Q))) : CallS E B 113 args σ Q :=
  S_callK hB [] rfl rfl rfl (by kernel_rfl) rfl rfl (by kernel_rfl) hl h
/-- (*towncrier/towncrierref04.Writer).fail -/
theorem call114 {args : List Value} {σ : AHeap} {Q : Value → AHeap → Prop} (hl : args.length ≤ 14) (h : CodeS E B (strip [] (bodyOf Tryz.f114)) (L 14 (ofL args)) σ (outS E [] (downS Q))) : CallS E B 114 args σ Q :=
  S_callK hB [] rfl rfl rfl (by kernel_rfl) rfl rfl (by kernel_rfl) hl h
/-- towncrier/towncrierref04.Number -/
theorem call115 {args : List Value} {σ : AHeap} {Q : Value → AHeap → Prop} (hl : args.length ≤ 22) (h : CodeS E B (strip [] (bodyOf Tryz.f115)) (L 22 (ofL args)) σ (outS E [.tmp 4] (downS Q))) : CallS E B 115 args σ Q :=
  S_callK hB [] rfl rfl rfl (by kernel_rfl) rfl rfl (by kernel_rfl) hl h
/-- towncrier/towncrierref02.Put -/
theorem wcall116 {args : List Value} {H : AHeap} {Q : Value → AHeap → Prop} (hl : args.length ≤ 31) (h : CodeW E (strip [] (bodyOf Tryz.f116)) (L 31 (ofL args))  H (retQ E [.tmp 2, .tmp 3] Q)) : CallW E 116 args H Q :=
  W_callK [] rfl rfl rfl (by kernel_rfl) rfl rfl (by kernel_rfl) hl h
/-- towncrier/towncrierref03.Check -/
theorem wcall117 {args : List Value} {H : AHeap} {Q : Value → AHeap → Prop} (hl : args.length ≤ 15) (h : CodeW E (strip [] (bodyOf Tryz.f117)) (L 15 (ofL args))  H (retQ E [.tmp 2, .tmp 3] Q)) : CallW E 117 args H Q :=
  W_callK [] rfl rfl rfl (by kernel_rfl) rfl rfl (by kernel_rfl) hl h
/-- towncrier/towncrierref04.Text -/
theorem call118 {args : List Value} {σ : AHeap} {Q : Value → AHeap → Prop} (hl : args.length ≤ 8) (h : CodeS E B (strip [] (bodyOf Tryz.f118)) (L 8 (ofL args)) σ (outS E [.tmp 2] (downS Q))) : CallS E B 118 args σ Q :=
  S_callK hB [] rfl rfl rfl (by kernel_rfl) rfl rfl (by kernel_rfl) hl h
/-- slices.ContainsFunc[[]towncrier/api.Prop,towncrier/api.Prop] -/
theorem call119 {args : List Value} {σ : AHeap} {Q : Value → AHeap → Prop} (hl : args.length ≤ 9) (h : CodeS E B (strip [] (bodyOf Tryz.f119)) (L 9 (ofL args)) σ (outS E [.tmp 4] (downS Q))) : CallS E B 119 args σ Q :=
  S_callK hB [] rfl rfl rfl (by kernel_rfl) rfl rfl (by kernel_rfl) hl h
/-- towncrier/prop.ground$1 -/
theorem call120 {args : List Value} {σ : AHeap} {Q : Value → AHeap → Prop} (hl : args.length ≤ 8) (h : CodeS E B (strip [] (bodyOf Tryz.f120)) (L 8 (ofL args)) σ (outS E [.tmp 3] (downS Q))) : CallS E B 120 args σ Q :=
  S_callK hB [] rfl rfl rfl (by kernel_rfl) rfl rfl (by kernel_rfl) hl h
/-- towncrier/prop.numbered -/
theorem call121 {args : List Value} {σ : AHeap} {Q : Value → AHeap → Prop} (hl : args.length ≤ 30) (h : CodeS E B (strip [] (bodyOf Tryz.f121)) (L 30 (ofL args)) σ (outS E [.tmp 2] (downS Q))) : CallS E B 121 args σ Q :=
  S_callK hB [] rfl rfl rfl (by kernel_rfl) rfl rfl (by kernel_rfl) hl h
/-- (*towncrier/field.Writer).number -/
theorem call122 {args : List Value} {σ : AHeap} {Q : Value → AHeap → Prop} (hl : args.length ≤ 69) (h : CodeS E B (strip [] (bodyOf Tryz.f122)) (L 69 (ofL args)) σ (outS E [] (downS Q))) : CallS E B 122 args σ Q :=
  S_callK hB [] rfl rfl rfl (by kernel_rfl) rfl rfl (by kernel_rfl) hl h
/-- towncrier/utf.Check -/
theorem wcall127 {args : List Value} {H : AHeap} {Q : Value → AHeap → Prop} (hl : args.length ≤ 11) (h : CodeW E (strip [] (bodyOf Tryz.f127)) (L 11 (ofL args))  H (retQ E [.tmp 2] Q)) : CallW E 127 args H Q :=
  W_callK [] rfl rfl rfl (by kernel_rfl) rfl rfl (by kernel_rfl) hl h
/-- towncrier/fault.further -/
theorem call148 {args : List Value} {σ : AHeap} {Q : Value → AHeap → Prop} (hl : args.length ≤ 12) (h : CodeS E B (strip [] (bodyOf Tryz.f148)) (L 12 (ofL args)) σ (outS E [.tmp 4] (downS Q))) : CallS E B 148 args σ Q :=
  S_callK hB [] rfl rfl rfl (by kernel_rfl) rfl rfl (by kernel_rfl) hl h
/-- towncrier/varint.Size -/
theorem wcall155 {args : List Value} {H : AHeap} {Q : Value → AHeap → Prop} (hl : args.length ≤ 17) (h : CodeW E (strip [] (bodyOf Tryz.f155)) (L 17 (ofL args))  H (retQ E [.tmp 2] Q)) : CallW E 155 args H Q :=
  W_callK [] rfl rfl rfl (by kernel_rfl) rfl rfl (by kernel_rfl) hl h
/-- towncrier/towncrierref03.Cut -/
theorem wcall156 {args : List Value} {H : AHeap} {Q : Value → AHeap → Prop} (hl : args.length ≤ 22) (h : CodeW E (strip [] (bodyOf Tryz.f156)) (L 22 (ofL args))  H (retQ E [.tmp 2] Q)) : CallW E 156 args H Q :=
  W_callK [] rfl rfl rfl (by kernel_rfl) rfl rfl (by kernel_rfl) hl h
/-- towncrier/utf.Letters -/
theorem wcall159 {args : List Value} {H : AHeap} {Q : Value → AHeap → Prop} (hl : args.length ≤ 24) (h : CodeW E (strip [] (bodyOf Tryz.f159)) (L 24 (ofL args))  H (retQ E [.tmp 2, .tmp 3] Q)) : CallW E 159 args H Q :=
  W_callK [] rfl rfl rfl (by kernel_rfl) rfl rfl (by kernel_rfl) hl h
/-- towncrier/fault.hold -/
theorem call169 {args : List Value} {σ : AHeap} {Q : Value → AHeap → Prop} (hl : args.length ≤ 11) (h : CodeS E B (strip [] (bodyOf Tryz.f169)) (L 11 (ofL args)) σ (outS E [.tmp 4] (downS Q))) : CallS E B 169 args σ Q :=
  S_callK hB [] rfl rfl rfl (by kernel_rfl) rfl rfl (by kernel_rfl) hl h
/-- towncrier/towncrierref03.First -/
theorem wcall172 {args : List Value} {H : AHeap} {Q : Value → AHeap → Prop} (hl : args.length ≤ 29) (h : CodeW E (strip [] (bodyOf Tryz.f172)) (L 29 (ofL args))  H (retQ E [.tmp 2] Q)) : CallW E 172 args H Q :=
  W_callK [] rfl rfl rfl (by kernel_rfl) rfl rfl (by kernel_rfl) hl h
/-- towncrier/utf.walk -/
theorem wcall174 {args : List Value} {H : AHeap} {Q : Value → AHeap → Prop} (hl : args.length ≤ 24) (h : CodeW E (strip [] (bodyOf Tryz.f174)) (L 24 (ofL args))  H (retQ E [.tmp 2, .tmp 3] Q)) : CallW E 174 args H Q :=
  W_callK [] rfl rfl rfl (by kernel_rfl) rfl rfl (by kernel_rfl) hl h
/-- towncrier/towncrierref03.Bytes -/
theorem wcall180 {args : List Value} {H : AHeap} {Q : Value → AHeap → Prop} (hl : args.length ≤ 76) (h : CodeW E (strip [] (bodyOf Tryz.f180)) (L 76 (ofL args))  H (retQ E [.tmp 2] Q)) : CallW E 180 args H Q :=
  W_callK [] rfl rfl rfl (by kernel_rfl) rfl rfl (by kernel_rfl) hl h
/-- towncrier/towncrierref03.number -/
theorem wcall181 {args : List Value} {H : AHeap} {Q : Value → AHeap → Prop} (hl : args.length ≤ 51) (h : CodeW E (strip [] (bodyOf Tryz.f181)) (L 51 (ofL args))  H (retQ E [.tmp 4] Q)) : CallW E 181 args H Q :=
  W_callK [] rfl rfl rfl (by kernel_rfl) rfl rfl (by kernel_rfl) hl h
/-- towncrier/utf.first -/
theorem wcall182 {args : List Value} {H : AHeap} {Q : Value → AHeap → Prop} (hl : args.length ≤ 56) (h : CodeW E (strip [] (bodyOf Tryz.f182)) (L 56 (ofL args))  H (retQ E [.tmp 2] Q)) : CallW E 182 args H Q :=
  W_callK [] rfl rfl rfl (by kernel_rfl) rfl rfl (by kernel_rfl) hl h
/-- towncrier/utf.shape -/
theorem wcall185 {args : List Value} {H : AHeap} {Q : Value → AHeap → Prop} (hl : args.length ≤ 44) (h : CodeW E (strip [] (bodyOf Tryz.f185)) (L 44 (ofL args))  H (retQ E [.tmp 2, .tmp 3, .tmp 4] Q)) : CallW E 185 args H Q :=
  W_callK [] rfl rfl rfl (by kernel_rfl) rfl rfl (by kernel_rfl) hl h
end Go.Proofs.YtonmjhdcijibgaaGreatDoor.AbsA
