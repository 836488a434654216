/-
  A part of a law's proof.
-/
import Derived.Test.YtccimdfmddomaaaDoorAEnvC
namespace Go.Proofs.YtccimdfmddomaaaDoor.AbsA
open Go AbsYtccimdfmddomaaaDoor Abs
set_option maxRecDepth 100000
set_option maxHeartbeats 4000000
/-- towncrier/towncrierlaw06.PropBack -/
theorem call9 {args : List Value} {σ : AHeap} {Q : Value → AHeap → Prop} (hl : args.length ≤ 96) (h : CodeS E B (strip [] (bodyOf Tryd.f9)) (L 96 (ofL args)) σ (outS E [.tmp 6] (downS Q))) : CallS E B 9 args σ Q :=
  S_callK hB [] rfl rfl rfl (by kernel_rfl) rfl rfl (by kernel_rfl) hl h
/-- (*towncrier/field.Writer).Bytes -/
theorem call35 {args : List Value} {σ : AHeap} {Q : Value → AHeap → Prop} (hl : args.length ≤ 20) (h : CodeS E B (strip [] (bodyOf Tryd.f35)) (L 20 (ofL args)) σ (outS E [.tmp 2, .tmp 3] (downS Q))) : CallS E B 35 args σ Q :=
  S_callK hB [] rfl rfl rfl (by kernel_rfl) rfl rfl (by kernel_rfl) hl h
/-- towncrier/field.New -/
theorem call36 {args : List Value} {σ : AHeap} {Q : Value → AHeap → Prop} (hl : args.length ≤ 6) (h : CodeS E B (strip [] (bodyOf Tryd.f36)) (L 6 (ofL args)) σ (outS E [.tmp 2] (downS Q))) : CallS E B 36 args σ Q :=
  S_callK hB [] rfl rfl rfl (by kernel_rfl) rfl rfl (by kernel_rfl) hl h
/-- (*towncrier/field.Reader).Left -/
theorem call39 {args : List Value} {σ : AHeap} {Q : Value → AHeap → Prop} (hl : args.length ≤ 15) (h : CodeS E B (strip [] (bodyOf Tryd.f39)) (L 15 (ofL args)) σ (outS E [.tmp 2] (downS Q))) : CallS E B 39 args σ Q :=
  S_callK hB [] rfl rfl rfl (by kernel_rfl) rfl rfl (by kernel_rfl) hl h
/-- (*towncrier/field.Reader).Err -/
theorem call41 {args : List Value} {σ : AHeap} {Q : Value → AHeap → Prop} (hl : args.length ≤ 9) (h : CodeS E B (strip [] (bodyOf Tryd.f41)) (L 9 (ofL args)) σ (outS E [.tmp 2] (downS Q))) : CallS E B 41 args σ Q :=
  S_callK hB [] rfl rfl rfl (by kernel_rfl) rfl rfl (by kernel_rfl) hl h
/-- towncrier/towncrierref06.Few -/
theorem call42 {args : List Value} {σ : AHeap} {Q : Value → AHeap → Prop} (hl : args.length ≤ 33) (h : CodeS E B (strip [] (bodyOf Tryd.f42)) (L 33 (ofL args)) σ (outS E [.tmp 2] (downS Q))) : CallS E B 42 args σ Q :=
  S_callK hB [] rfl rfl rfl (by kernel_rfl) rfl rfl (by kernel_rfl) hl h
/-- towncrier/prop.Read -/
theorem call44 {args : List Value} {σ : AHeap} {Q : Value → AHeap → Prop} (hl : args.length ≤ 49) (h : CodeS E B (strip [] (bodyOf Tryd.f44)) (L 49 (ofL args)) σ (outS E [.tmp 4, .tmp 5] (downS Q))) : CallS E B 44 args σ Q :=
  S_callK hB [] rfl rfl rfl (by kernel_rfl) rfl rfl (by kernel_rfl) hl h
/-- towncrier/prop.Check -/
theorem call45 {args : List Value} {σ : AHeap} {Q : Value → AHeap → Prop} (hl : args.length ≤ 34) (h : CodeS E B (strip [] (bodyOf Tryd.f45)) (L 34 (ofL args)) σ (outS E [.tmp 4] (downS Q))) : CallS E B 45 args σ Q :=
  S_callK hB [] rfl rfl rfl (by kernel_rfl) rfl rfl (by kernel_rfl) hl h
/-- towncrier/prop.Encode -/
theorem call46 {args : List Value} {σ : AHeap} {Q : Value → AHeap → Prop} (hl : args.length ≤ 52) (h : CodeS E B (strip [] (bodyOf Tryd.f46)) (L 52 (ofL args)) σ (outS E [.tmp 4, .tmp 5] (downS Q))) : CallS E B 46 args σ Q :=
  S_callK hB [] rfl rfl rfl (by kernel_rfl) rfl rfl (by kernel_rfl) hl h
/-- towncrier/towncrierref06.Plain -/
theorem call47 {args : List Value} {σ : AHeap} {Q : Value → AHeap → Prop} (hl : args.length ≤ 63) (h : CodeS E B (strip [] (bodyOf Tryd.f47)) (L 63 (ofL args)) σ (outS E [.tmp 2] (downS Q))) : CallS E B 47 args σ Q :=
  S_callK hB [] rfl rfl rfl (by kernel_rfl) rfl rfl (by kernel_rfl) hl h
/-- towncrier/towncrierref06.Same -/
theorem call48 {args : List Value} {σ : AHeap} {Q : Value → AHeap → Prop} (hl : args.length ≤ 32) (h : CodeS E B (strip [] (bodyOf Tryd.f48)) (L 32 (ofL args)) σ (outS E [.tmp 4] (downS Q))) : CallS E B 48 args σ Q :=
  S_callK hB [] rfl rfl rfl (by kernel_rfl) rfl rfl (by kernel_rfl) hl h
/-- (*towncrier/field.Reader).At -/
theorem call49 {args : List Value} {σ : AHeap} {Q : Value → AHeap → Prop} (hl : args.length ≤ 9) (h : CodeS E B (strip [] (bodyOf Tryd.f49)) (L 9 (ofL args)) σ (outS E [.tmp 2] (downS Q))) : CallS E B 49 args σ Q :=
  S_callK hB [] rfl rfl rfl (by kernel_rfl) rfl rfl (by kernel_rfl) hl h
/-- towncrier/fault.New -/
theorem call56 {args : List Value} {σ : AHeap} {Q : Value → AHeap → Prop} (hl : args.length ≤ 15) (h : CodeS E B (strip [] (bodyOf Tryd.f56)) (L 15 (ofL args)) σ (outS E [.tmp 6] (downS Q))) : CallS E B 56 args σ Q :=
  S_callK hB [] rfl rfl rfl (by kernel_rfl) rfl rfl (by kernel_rfl) hl h
/-- towncrier/fault.New -/
theorem wcall56 {args : List Value} {H : AHeap} {Q : Value → AHeap → Prop} (hl : args.length ≤ 15) (h : CodeW E (strip [] (bodyOf Tryd.f56)) (L 15 (ofL args))  H (retQ E [.tmp 6] Q)) : CallW E 56 args H Q :=
  W_callK [] rfl rfl rfl (by kernel_rfl) rfl rfl (by kernel_rfl) hl h
/-- (*towncrier/field.Writer).Raw -/
theorem call57 {args : List Value} {σ : AHeap} {Q : Value → AHeap → Prop} (hl : args.length ≤ 16) (h : CodeS E B (strip [] (bodyOf Tryd.f57)) (L 16 (ofL args)) σ (outS E [] (downS Q))) : CallS E B 57 args σ Q :=
  S_callK hB [] rfl rfl rfl (by kernel_rfl) rfl rfl (by kernel_rfl) hl h
/-- (*towncrier/field.Writer).U32 -/
theorem call59 {args : List Value} {σ : AHeap} {Q : Value → AHeap → Prop} (hl : args.length ≤ 7) (h : CodeS E B (strip [] (bodyOf Tryd.f59)) (L 7 (ofL args)) σ (outS E [] (downS Q))) : CallS E B 59 args σ Q :=
  S_callK hB [] rfl rfl rfl (by kernel_rfl) rfl rfl (by kernel_rfl) hl h
/-- (*towncrier/field.Writer).U16 -/
theorem call60 {args : List Value} {σ : AHeap} {Q : Value → AHeap → Prop} (hl : args.length ≤ 7) (h : CodeS E B (strip [] (bodyOf Tryd.f60)) (L 7 (ofL args)) σ (outS E [] (downS Q))) : CallS E B 60 args σ Q :=
  S_callK hB [] rfl rfl rfl (by kernel_rfl) rfl rfl (by kernel_rfl) hl h
/-- (*towncrier/field.Writer).U8 -/
theorem call62 {args : List Value} {σ : AHeap} {Q : Value → AHeap → Prop} (hl : args.length ≤ 7) (h : CodeS E B (strip [] (bodyOf Tryd.f62)) (L 7 (ofL args)) σ (outS E [] (downS Q))) : CallS E B 62 args σ Q :=
  S_callK hB [] rfl rfl rfl (by kernel_rfl) rfl rfl (by kernel_rfl) hl h
/-- (*towncrier/field.Writer).Bin -/
theorem call63 {args : List Value} {σ : AHeap} {Q : Value → AHeap → Prop} (hl : args.length ≤ 11) (h : CodeS E B (strip [] (bodyOf Tryd.f63)) (L 11 (ofL args)) σ (outS E [] (downS Q))) : CallS E B 63 args σ Q :=
  S_callK hB [] rfl rfl rfl (by kernel_rfl) rfl rfl (by kernel_rfl) hl h
/-- towncrier/varint.Put -/
theorem wcall66 {args : List Value} {H : AHeap} {Q : Value → AHeap → Prop} (hl : args.length ≤ 39) (h : CodeW E (strip [] (bodyOf Tryd.f66)) (L 39 (ofL args))  H (retQ E [.tmp 2, .tmp 3] Q)) : CallW E 66 args H Q :=
  W_callK [] rfl rfl rfl (by kernel_rfl) rfl rfl (by kernel_rfl) hl h
/-- towncrier/fault.Reason -/
theorem call68 {args : List Value} {σ : AHeap} {Q : Value → AHeap → Prop} (hl : args.length ≤ 13) (h : CodeS E B (strip [] (bodyOf Tryd.f68)) (L 13 (ofL args)) σ (outS E [.tmp 2] (downS Q))) : CallS E B 68 args σ Q :=
  S_callK hB [] rfl rfl rfl (by kernel_rfl) rfl rfl (by kernel_rfl) hl h
/-- towncrier/fault.At -/
theorem call69 {args : List Value} {σ : AHeap} {Q : Value → AHeap → Prop} (hl : args.length ≤ 15) (h : CodeS E B (strip [] (bodyOf Tryd.f69)) (L 15 (ofL args)) σ (outS E [.tmp 2] (downS Q))) : CallS E B 69 args σ Q :=
  S_callK hB [] rfl rfl rfl (by kernel_rfl) rfl rfl (by kernel_rfl) hl h
/-- (*towncrier/field.Writer).Text -/
theorem call83 {args : List Value} {σ : AHeap} {Q : Value → AHeap → Prop} (hl : args.length ≤ 24) (h : CodeS E B (strip [] (bodyOf Tryd.f83)) (L 24 (ofL args)) σ (outS E [] (downS Q))) : CallS E B 83 args σ Q :=
  S_callK hB [] rfl rfl rfl (by kernel_rfl) rfl rfl (by kernel_rfl) hl h
/-- (*towncrier/field.Reader).U16 -/
theorem call84 {args : List Value} {σ : AHeap} {Q : Value → AHeap → Prop} (hl : args.length ≤ 5) (h : CodeS E B (strip [] (bodyOf Tryd.f84)) (L 5 (ofL args)) σ (outS E [.tmp 2] (downS Q))) : CallS E B 84 args σ Q :=
  S_callK hB [] rfl rfl rfl (by kernel_rfl) rfl rfl (by kernel_rfl) hl h
/-- (*towncrier/field.Reader).Text -/
theorem call85 {args : List Value} {σ : AHeap} {Q : Value → AHeap → Prop} (hl : args.length ≤ 27) (h : CodeS E B (strip [] (bodyOf Tryd.f85)) (L 27 (ofL args)) σ (outS E [.tmp 2] (downS Q))) : CallS E B 85 args σ Q :=
  S_callK hB [] rfl rfl rfl (by kernel_rfl) rfl rfl (by kernel_rfl) hl h
/-- (*towncrier/field.Reader).U32 -/
theorem call86 {args : List Value} {σ : AHeap} {Q : Value → AHeap → Prop} (hl : args.length ≤ 5) (h : CodeS E B (strip [] (bodyOf Tryd.f86)) (L 5 (ofL args)) σ (outS E [.tmp 2] (downS Q))) : CallS E B 86 args σ Q :=
  S_callK hB [] rfl rfl rfl (by kernel_rfl) rfl rfl (by kernel_rfl) hl h
/-- (*towncrier/field.Writer).Var -/
theorem call87 {args : List Value} {σ : AHeap} {Q : Value → AHeap → Prop} (hl : args.length ≤ 33) (h : CodeS E B (strip [] (bodyOf Tryd.f87)) (L 33 (ofL args)) σ (outS E [] (downS Q))) : CallS E B 87 args σ Q :=
  S_callK hB [] rfl rfl rfl (by kernel_rfl) rfl rfl (by kernel_rfl) hl h
/-- (*towncrier/field.Writer).first -/
theorem call88 {args : List Value} {σ : AHeap} {Q : Value → AHeap → Prop} (hl : args.length ≤ 9) (h : CodeS E B (strip [] (bodyOf Tryd.f88)) (L 9 (ofL args)) σ (outS E [.tmp 2] (downS Q))) : CallS E B 88 args σ Q :=
  S_callK hB [] rfl rfl rfl (by kernel_rfl) rfl rfl (by kernel_rfl) hl h
/-- (*towncrier/field.Reader).U8 -/
theorem call89 {args : List Value} {σ : AHeap} {Q : Value → AHeap → Prop} (hl : args.length ≤ 5) (h : CodeS E B (strip [] (bodyOf Tryd.f89)) (L 5 (ofL args)) σ (outS E [.tmp 2] (downS Q))) : CallS E B 89 args σ Q :=
  S_callK hB [] rfl rfl rfl (by kernel_rfl) rfl rfl (by kernel_rfl) hl h
/-- (*towncrier/field.Reader).Var -/
theorem call90 {args : List Value} {σ : AHeap} {Q : Value → AHeap → Prop} (hl : args.length ≤ 42) (h : CodeS E B (strip [] (bodyOf Tryd.f90)) (L 42 (ofL args)) σ (outS E [.tmp 2] (downS Q))) : CallS E B 90 args σ Q :=
  S_callK hB [] rfl rfl rfl (by kernel_rfl) rfl rfl (by kernel_rfl) hl h
/-- (*towncrier/field.Reader).Bin -/
theorem call91 {args : List Value} {σ : AHeap} {Q : Value → AHeap → Prop} (hl : args.length ≤ 15) (h : CodeS E B (strip [] (bodyOf Tryd.f91)) (L 15 (ofL args)) σ (outS E [.tmp 2] (downS Q))) : CallS E B 91 args σ Q :=
  S_callK hB [] rfl rfl rfl (by kernel_rfl) rfl rfl (by kernel_rfl) hl h
/-- (*towncrier/field.Reader).Raw -/
theorem call92 {args : List Value} {σ : AHeap} {Q : Value → AHeap → Prop} (hl : args.length ≤ 68) (h : CodeS E B (strip [] (bodyOf Tryd.f92)) (L 68 (ofL args)) σ (outS E [.tmp 4] (downS Q))) : CallS E B 92 args σ Q :=
  S_callK hB [] rfl rfl rfl (by kernel_rfl) rfl rfl (by kernel_rfl) hl h
/-- towncrier/prop.Type -/
theorem call96 {args : List Value} {σ : AHeap} {Q : Value → AHeap → Prop} (hl : args.length ≤ 38) (h : CodeS E B (strip [] (bodyOf Tryd.f96)) (L 38 (ofL args)) σ (outS E [.tmp 2] (downS Q))) : CallS E B 96 args σ Q :=
  S_callK hB [] rfl rfl rfl (by kernel_rfl) rfl rfl (by kernel_rfl) hl h
/-- towncrier/prop.one -/
theorem call99 {args : List Value} {σ : AHeap} {Q : Value → AHeap → Prop} (hl : args.length ≤ 46) (h : CodeS E B (strip [13] (bodyOf Tryd.f99)) (L 46 (ofL args)) σ (outS E [.cell 6 140, .tmp 7] (downS Q))) : CallS E B 99 args σ Q :=
  S_callK hB [13] rfl rfl rfl (by kernel_rfl) rfl rfl (by kernel_rfl) hl h
/-- towncrier/fault.Deeper -/
theorem call100 {args : List Value} {σ : AHeap} {Q : Value → AHeap → Prop} (hl : args.length ≤ 17) (h : CodeS E B (strip [] (bodyOf Tryd.f100)) (L 17 (ofL args)) σ (outS E [.tmp 4] (downS Q))) : CallS E B 100 args σ Q :=
  S_callK hB [] rfl rfl rfl (by kernel_rfl) rfl rfl (by kernel_rfl) hl h
/-- towncrier/prop.ground -/
theorem call101 {args : List Value} {σ : AHeap} {Q : Value → AHeap → Prop} (hl : args.length ≤ 51) (h : CodeS E B (strip [] (bodyOf Tryd.f101)) (L 51 (ofL args)) σ (outS E [.tmp 8] (downS Q))) : CallS E B 101 args σ Q :=
  S_callK hB [] rfl rfl rfl (by kernel_rfl) rfl rfl (by kernel_rfl) hl h
/-- towncrier/prop.bad -/
theorem call102 {args : List Value} {σ : AHeap} {Q : Value → AHeap → Prop} (hl : args.length ≤ 10) (h : CodeS E B (strip [] (bodyOf Tryd.f102)) (L 10 (ofL args)) σ (outS E [.tmp 4] (downS Q))) : CallS E B 102 args σ Q :=
  S_callK hB [] rfl rfl rfl (by kernel_rfl) rfl rfl (by kernel_rfl) hl h
/-- towncrier/prop.write -/
theorem call103 {args : List Value} {σ : AHeap} {Q : Value → AHeap → Prop} (hl : args.length ≤ 57) (h : CodeS E B (strip [] (bodyOf Tryd.f103)) (L 57 (ofL args)) σ (outS E [] (downS Q))) : CallS E B 103 args σ Q :=
  S_callK hB [] rfl rfl rfl (by kernel_rfl) rfl rfl (by kernel_rfl) hl h
/-- towncrier/towncrierref06.Type -/
theorem call104 {args : List Value} {σ : AHeap} {Q : Value → AHeap → Prop} (hl : args.length ≤ 38) (h : CodeS E B (strip [] (bodyOf Tryd.f104)) (L 38 (ofL args)) σ (outS E [.tmp 2] (downS Q))) : CallS E B 104 args σ Q :=
  S_callK hB [] rfl rfl rfl (by kernel_rfl) rfl rfl (by kernel_rfl) hl h
/-- (*towncrier/field.Writer).off -/
theorem call115 {args : List Value} {σ : AHeap} {Q : Value → AHeap → Prop} (hl : args.length ≤ 12) (h : CodeS E B (strip [] (bodyOf Tryd.f115)) (L 12 (ofL args)) σ (outS E [.tmp 2] (downS Q))) : CallS E B 115 args σ Q :=
  S_callK hB [] rfl rfl rfl (by kernel_rfl) rfl rfl (by kernel_rfl) hl h
/-- (*towncrier/field.Writer).number -/
theorem call116 {args : List Value} {σ : AHeap} {Q : Value → AHeap → Prop} (hl : args.length ≤ 69) (h : CodeS E B (strip [] (bodyOf Tryd.f116)) (L 69 (ofL args)) σ (outS E [] (downS Q))) : CallS E B 116 args σ Q :=
  S_callK hB [] rfl rfl rfl (by kernel_rfl) rfl rfl (by kernel_rfl) hl h
/-- towncrier/varint.Size -/
theorem wcall119 {args : List Value} {H : AHeap} {Q : Value → AHeap → Prop} (hl : args.length ≤ 17) (h : CodeW E (strip [] (bodyOf Tryd.f119)) (L 17 (ofL args))  H (retQ E [.tmp 2] Q)) : CallW E 119 args H Q :=
  W_callK [] rfl rfl rfl (by kernel_rfl) rfl rfl (by kernel_rfl) hl h
/-- towncrier/varint.Take -/
theorem wcall121 {args : List Value} {H : AHeap} {Q : Value → AHeap → Prop} (hl : args.length ≤ 48) (h : CodeW E (strip [] (bodyOf Tryd.f121)) (L 48 (ofL args))  H (retQ E [.tmp 2, .tmp 3, .tmp 4] Q)) : CallW E 121 args H Q :=
  W_callK [] rfl rfl rfl (by kernel_rfl) rfl rfl (by kernel_rfl) hl h
/-- towncrier/utf.Check -/
theorem wcall125 {args : List Value} {H : AHeap} {Q : Value → AHeap → Prop} (hl : args.length ≤ 11) (h : CodeW E (strip [] (bodyOf Tryd.f125)) (L 11 (ofL args))  H (retQ E [.tmp 2] Q)) : CallW E 125 args H Q :=
  W_callK [] rfl rfl rfl (by kernel_rfl) rfl rfl (by kernel_rfl) hl h
/-- (*towncrier/field.Writer).fail -/
theorem call126 {args : List Value} {σ : AHeap} {Q : Value → AHeap → Prop} (hl : args.length ≤ 8) (h : CodeS E B (strip [] (bodyOf Tryd.f126)) (L 8 (ofL args)) σ (outS E [] (downS Q))) : CallS E B 126 args σ Q :=
  S_callK hB [] rfl rfl rfl (by kernel_rfl) rfl rfl (by kernel_rfl) hl h
/-- (*towncrier/field.Reader).number -/
theorem call127 {args : List Value} {σ : AHeap} {Q : Value → AHeap → Prop} (hl : args.length ≤ 24) (h : CodeS E B (strip [] (bodyOf Tryd.f127)) (L 24 (ofL args)) σ (outS E [.tmp 4] (downS Q))) : CallS E B 127 args σ Q :=
  S_callK hB [] rfl rfl rfl (by kernel_rfl) rfl rfl (by kernel_rfl) hl h
/-- (*towncrier/field.Reader).off -/
theorem call128 {args : List Value} {σ : AHeap} {Q : Value → AHeap → Prop} (hl : args.length ≤ 12) (h : CodeS E B (strip [] (bodyOf Tryd.f128)) (L 12 (ofL args)) σ (outS E [.tmp 2] (downS Q))) : CallS E B 128 args σ Q :=
  S_callK hB [] rfl rfl rfl (by kernel_rfl) rfl rfl (by kernel_rfl) hl h
/-- (*towncrier/field.Reader).back -/
theorem call129 {args : List Value} {σ : AHeap} {Q : Value → AHeap → Prop} (hl : args.length ≤ 17) (h : CodeS E B (strip [] (bodyOf Tryd.f129)) (L 17 (ofL args)) σ (outS E [] (downS Q))) : CallS E B 129 args σ Q :=
  S_callK hB [] rfl rfl rfl (by kernel_rfl) rfl rfl (by kernel_rfl) hl h
/-- slices.IndexFunc[[]towncrier/api.Prop,towncrier/api.Prop] -/
theorem call132 {args : List Value} {σ : AHeap} {Q : Value → AHeap → Prop} (hl : args.length ≤ 19) (h : CodeS E B (strip [] (bodyOf Tryd.f132)) (L 19 (ofL args)) σ (outS E [.tmp 4] (downS Q))) : CallS E B 132 args σ Q :=
  S_callK hB [] rfl rfl rfl (by kernel_rfl) rfl rfl (by kernel_rfl) hl h
/-- towncrier/prop.value -/
theorem call137 {args : List Value} {σ : AHeap} {Q : Value → AHeap → Prop} (hl : args.length ≤ 49) (h : CodeS E B (strip [] (bodyOf Tryd.f137)) (L 49 (ofL args)) σ (outS E [.cell 4 140] (downS Q))) : CallS E B 137 args σ Q :=
  S_callK hB [] rfl rfl rfl (by kernel_rfl) rfl rfl (by kernel_rfl) hl h
/-- towncrier/fault.further -/
theorem call138 {args : List Value} {σ : AHeap} {Q : Value → AHeap → Prop} (hl : args.length ≤ 12) (h : CodeS E B (strip [] (bodyOf Tryd.f138)) (L 12 (ofL args)) σ (outS E [.tmp 4] (downS Q))) : CallS E B 138 args σ Q :=
  S_callK hB [] rfl rfl rfl (by kernel_rfl) rfl rfl (by kernel_rfl) hl h
/-- towncrier/prop.Allowed -/
theorem call139 {args : List Value} {σ : AHeap} {Q : Value → AHeap → Prop} (hl : args.length ≤ 114) (h : CodeS E B (strip [] (bodyOf Tryd.f139)) (L 114 (ofL args)) σ (outS E [.tmp 4] (downS Q))) : CallS E B 139 args σ Q :=
  S_callK hB [] rfl rfl rfl (by kernel_rfl) rfl rfl (by kernel_rfl) hl h
/-- slices.ContainsFunc[[]towncrier/api.Prop,towncrier/api.Prop] -/
theorem call140 {args : List Value} {σ : AHeap} {Q : Value → AHeap → Prop} (hl : args.length ≤ 9) (h : CodeS E B (strip [] (bodyOf Tryd.f140)) (L 9 (ofL args)) σ (outS E [.tmp 4] (downS Q))) : CallS E B 140 args σ Q :=
  S_callK hB [] rfl rfl rfl (by kernel_rfl) rfl rfl (by kernel_rfl) hl h
/-- towncrier/prop.ground$1 -/
theorem call141 {args : List Value} {σ : AHeap} {Q : Value → AHeap → Prop} (hl : args.length ≤ 8) (h : CodeS E B (strip [] (bodyOf Tryd.f141)) (L 8 (ofL args)) σ (outS E [.tmp 3] (downS Q))) : CallS E B 141 args σ Q :=
  S_callK hB [] rfl rfl rfl (by kernel_rfl) rfl rfl (by kernel_rfl) hl h
/-- towncrier/prop.numbered -/
theorem call142 {args : List Value} {σ : AHeap} {Q : Value → AHeap → Prop} (hl : args.length ≤ 30) (h : CodeS E B (strip [] (bodyOf Tryd.f142)) (L 30 (ofL args)) σ (outS E [.tmp 2] (downS Q))) : CallS E B 142 args σ Q :=
  S_callK hB [] rfl rfl rfl (by kernel_rfl) rfl rfl (by kernel_rfl) hl h
/-- towncrier/utf.Letters -/
theorem wcall150 {args : List Value} {H : AHeap} {Q : Value → AHeap → Prop} (hl : args.length ≤ 24) (h : CodeW E (strip [] (bodyOf Tryd.f150)) (L 24 (ofL args))  H (retQ E [.tmp 2, .tmp 3] Q)) : CallW E 150 args H Q :=
  W_callK [] rfl rfl rfl (by kernel_rfl) rfl rfl (by kernel_rfl) hl h
/-- towncrier/fault.hold -/
theorem call151 {args : List Value} {σ : AHeap} {Q : Value → AHeap → Prop} (hl : args.length ≤ 11) (h : CodeS E B (strip [] (bodyOf Tryd.f151)) (L 11 (ofL args)) σ (outS E [.tmp 4] (downS Q))) : CallS E B 151 args σ Q :=
  S_callK hB [] rfl rfl rfl (by kernel_rfl) rfl rfl (by kernel_rfl) hl h
/-- slices.Contains[[]int,int] -/
theorem call152 {args : List Value} {σ : AHeap} {Q : Value → AHeap → Prop} (hl : args.length ≤ 9) (h : CodeS E B (strip [] (bodyOf Tryd.f152)) (L 9 (ofL args)) σ (outS E [.tmp 4] (downS Q))) : CallS E B 152 args σ Q :=
  S_callK hB [] rfl rfl rfl (by kernel_rfl) rfl rfl (by kernel_rfl) hl h
/-- towncrier/utf.walk -/
theorem wcall155 {args : List Value} {H : AHeap} {Q : Value → AHeap → Prop} (hl : args.length ≤ 24) (h : CodeW E (strip [] (bodyOf Tryd.f155)) (L 24 (ofL args))  H (retQ E [.tmp 2, .tmp 3] Q)) : CallW E 155 args H Q :=
  W_callK [] rfl rfl rfl (by kernel_rfl) rfl rfl (by kernel_rfl) hl h
/-- slices.Index[[]int,int] -/
theorem call156 {args : List Value} {σ : AHeap} {Q : Value → AHeap → Prop} (hl : args.length ≤ 19) (h : CodeS E B (strip [] (bodyOf Tryd.f156)) (L 19 (ofL args)) σ (outS E [.tmp 4] (downS Q))) : CallS E B 156 args σ Q :=
  S_callK hB [] rfl rfl rfl (by kernel_rfl) rfl rfl (by kernel_rfl) hl h
/-- towncrier/utf.first -/
theorem wcall157 {args : List Value} {H : AHeap} {Q : Value → AHeap → Prop} (hl : args.length ≤ 56) (h : CodeW E (strip [] (bodyOf Tryd.f157)) (L 56 (ofL args))  H (retQ E [.tmp 2] Q)) : CallW E 157 args H Q :=
  W_callK [] rfl rfl rfl (by kernel_rfl) rfl rfl (by kernel_rfl) hl h
/-- towncrier/utf.shape -/
theorem wcall158 {args : List Value} {H : AHeap} {Q : Value → AHeap → Prop} (hl : args.length ≤ 44) (h : CodeW E (strip [] (bodyOf Tryd.f158)) (L 44 (ofL args))  H (retQ E [.tmp 2, .tmp 3, .tmp 4] Q)) : CallW E 158 args H Q :=
  W_callK [] rfl rfl rfl (by kernel_rfl) rfl rfl (by kernel_rfl) hl h
end Go.Proofs.YtccimdfmddomaaaDoor.AbsA
