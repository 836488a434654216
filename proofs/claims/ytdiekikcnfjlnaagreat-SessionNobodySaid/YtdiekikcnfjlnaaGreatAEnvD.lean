/-
  A part of a law's proof.
-/
import Derived.Test.YtdiekikcnfjlnaaGreatAEnvC
namespace Go.Proofs.YtdiekikcnfjlnaaGreat.AbsA
open Go AbsYtdiekikcnfjlnaaGreat Abs
set_option maxRecDepth 100000
set_option maxHeartbeats 4000000
/-- towncrier/towncrierlaw30.SessionNobody -/
theorem call3 {args : List Value} {σ : AHeap} {Q : Value → AHeap → Prop} (hl : args.length ≤ 95) (h : CodeS E B (strip [] (bodyOf Tryz.f3)) (L 95 (ofL args)) σ (outS E [.tmp 2] (downS Q))) : CallS E B 3 args σ Q :=
  S_callK hB [] rfl rfl rfl (by kernel_rfl) rfl rfl (by kernel_rfl) hl h
/-- towncrier/towncrierref30.Few -/
theorem call4 {args : List Value} {σ : AHeap} {Q : Value → AHeap → Prop} (hl : args.length ≤ 38) (h : CodeS E B (strip [] (bodyOf Tryz.f4)) (L 38 (ofL args)) σ (outS E [.tmp 4] (downS Q))) : CallS E B 4 args σ Q :=
  S_callK hB [] rfl rfl rfl (by kernel_rfl) rfl rfl (by kernel_rfl) hl h
/-- towncrier/towncrierlaw30.do -/
theorem call6 {args : List Value} {σ : AHeap} {Q : Value → AHeap → Prop} (hl : args.length ≤ 49) (h : CodeS E B (strip [] (bodyOf Tryz.f6)) (L 49 (ofL args)) σ (outS E [] (downS Q))) : CallS E B 6 args σ Q :=
  S_callK hB [] rfl rfl rfl (by kernel_rfl) rfl rfl (by kernel_rfl) hl h
/-- (*towncrier/session.Session).SetExpiry -/
theorem call7 {args : List Value} {σ : AHeap} {Q : Value → AHeap → Prop} (hl : args.length ≤ 11) (h : CodeS E B (strip [] (bodyOf Tryz.f7)) (L 11 (ofL args)) σ (outS E [] (downS Q))) : CallS E B 7 args σ Q :=
  S_callK hB [] rfl rfl rfl (by kernel_rfl) rfl rfl (by kernel_rfl) hl h
/-- (*towncrier/session.Session).SetWill -/
theorem call8 {args : List Value} {σ : AHeap} {Q : Value → AHeap → Prop} (hl : args.length ≤ 14) (h : CodeS E B (strip [] (bodyOf Tryz.f8)) (L 14 (ofL args)) σ (outS E [] (downS Q))) : CallS E B 8 args σ Q :=
  S_callK hB [] rfl rfl rfl (by kernel_rfl) rfl rfl (by kernel_rfl) hl h
/-- (*towncrier/session.Session).Subscribe -/
theorem call9 {args : List Value} {σ : AHeap} {Q : Value → AHeap → Prop} (hl : args.length ≤ 33) (h : CodeS E B (strip [] (bodyOf Tryz.f9)) (L 33 (ofL args)) σ (outS E [.tmp 6] (downS Q))) : CallS E B 9 args σ Q :=
  S_callK hB [] rfl rfl rfl (by kernel_rfl) rfl rfl (by kernel_rfl) hl h
/-- (*towncrier/session.Session).Unsubscribe -/
theorem call10 {args : List Value} {σ : AHeap} {Q : Value → AHeap → Prop} (hl : args.length ≤ 22) (h : CodeS E B (strip [] (bodyOf Tryz.f10)) (L 22 (ofL args)) σ (outS E [.tmp 4] (downS Q))) : CallS E B 10 args σ Q :=
  S_callK hB [] rfl rfl rfl (by kernel_rfl) rfl rfl (by kernel_rfl) hl h
/-- (*towncrier/session.Session).Online -/
theorem call11 {args : List Value} {σ : AHeap} {Q : Value → AHeap → Prop} (hl : args.length ≤ 11) (h : CodeS E B (strip [] (bodyOf Tryz.f11)) (L 11 (ofL args)) σ (outS E [.tmp 2] (downS Q))) : CallS E B 11 args σ Q :=
  S_callK hB [] rfl rfl rfl (by kernel_rfl) rfl rfl (by kernel_rfl) hl h
/-- (*towncrier/session.Session).Gone -/
theorem call12 {args : List Value} {σ : AHeap} {Q : Value → AHeap → Prop} (hl : args.length ≤ 36) (h : CodeS E B (strip [3] (bodyOf Tryz.f12)) (L 36 (ofL args)) σ (outS E [.tmp 4] (downS Q))) : CallS E B 12 args σ Q :=
  S_callK hB [3] rfl rfl rfl (by kernel_rfl) rfl rfl (by kernel_rfl) hl h
/-- (*towncrier/session.Session).Room -/
theorem call13 {args : List Value} {σ : AHeap} {Q : Value → AHeap → Prop} (hl : args.length ≤ 24) (h : CodeS E B (strip [3] (bodyOf Tryz.f13)) (L 24 (ofL args)) σ (outS E [.tmp 2] (downS Q))) : CallS E B 13 args σ Q :=
  S_callK hB [3] rfl rfl rfl (by kernel_rfl) rfl rfl (by kernel_rfl) hl h
/-- (*towncrier/session.Session).Filters -/
theorem call14 {args : List Value} {σ : AHeap} {Q : Value → AHeap → Prop} (hl : args.length ≤ 24) (h : CodeS E B (strip [] (bodyOf Tryz.f14)) (L 24 (ofL args)) σ (outS E [.tmp 2] (downS Q))) : CallS E B 14 args σ Q :=
  S_callK hB [] rfl rfl rfl (by kernel_rfl) rfl rfl (by kernel_rfl) hl h
/-- (*towncrier/session.Session).Waiting -/
theorem call15 {args : List Value} {σ : AHeap} {Q : Value → AHeap → Prop} (hl : args.length ≤ 10) (h : CodeS E B (strip [] (bodyOf Tryz.f15)) (L 10 (ofL args)) σ (outS E [.tmp 2] (downS Q))) : CallS E B 15 args σ Q :=
  S_callK hB [] rfl rfl rfl (by kernel_rfl) rfl rfl (by kernel_rfl) hl h
/-- (*towncrier/session.Session).Flights -/
theorem call16 {args : List Value} {σ : AHeap} {Q : Value → AHeap → Prop} (hl : args.length ≤ 10) (h : CodeS E B (strip [] (bodyOf Tryz.f16)) (L 10 (ofL args)) σ (outS E [.tmp 2] (downS Q))) : CallS E B 16 args σ Q :=
  S_callK hB [] rfl rfl rfl (by kernel_rfl) rfl rfl (by kernel_rfl) hl h
/-- (*towncrier/session.Session).Done -/
theorem call17 {args : List Value} {σ : AHeap} {Q : Value → AHeap → Prop} (hl : args.length ≤ 15) (h : CodeS E B (strip [] (bodyOf Tryz.f17)) (L 15 (ofL args)) σ (outS E [.tmp 4] (downS Q))) : CallS E B 17 args σ Q :=
  S_callK hB [] rfl rfl rfl (by kernel_rfl) rfl rfl (by kernel_rfl) hl h
/-- (*towncrier/session.Session).Release -/
theorem call18 {args : List Value} {σ : AHeap} {Q : Value → AHeap → Prop} (hl : args.length ≤ 15) (h : CodeS E B (strip [] (bodyOf Tryz.f18)) (L 15 (ofL args)) σ (outS E [.tmp 4] (downS Q))) : CallS E B 18 args σ Q :=
  S_callK hB [] rfl rfl rfl (by kernel_rfl) rfl rfl (by kernel_rfl) hl h
/-- (*towncrier/session.Session).Terms -/
theorem call19 {args : List Value} {σ : AHeap} {Q : Value → AHeap → Prop} (hl : args.length ≤ 10) (h : CodeS E B (strip [] (bodyOf Tryz.f19)) (L 10 (ofL args)) σ (outS E [.cell 2 23] (downS Q))) : CallS E B 19 args σ Q :=
  S_callK hB [] rfl rfl rfl (by kernel_rfl) rfl rfl (by kernel_rfl) hl h
/-- (*towncrier/session.Session).Will -/
theorem call20 {args : List Value} {σ : AHeap} {Q : Value → AHeap → Prop} (hl : args.length ≤ 16) (h : CodeS E B (strip [] (bodyOf Tryz.f20)) (L 16 (ofL args)) σ (outS E [.cell 2 30] (downS Q))) : CallS E B 20 args σ Q :=
  S_callK hB [] rfl rfl rfl (by kernel_rfl) rfl rfl (by kernel_rfl) hl h
/-- towncrier/towncrierref19.Small -/
theorem call21 {args : List Value} {σ : AHeap} {Q : Value → AHeap → Prop} (hl : args.length ≤ 30) (h : CodeS E B (strip [] (bodyOf Tryz.f21)) (L 30 (ofL args)) σ (outS E [.tmp 2] (downS Q))) : CallS E B 21 args σ Q :=
  S_callK hB [] rfl rfl rfl (by kernel_rfl) rfl rfl (by kernel_rfl) hl h
/-- (*towncrier/session.Session).Begin -/
theorem call24 {args : List Value} {σ : AHeap} {Q : Value → AHeap → Prop} (hl : args.length ≤ 27) (h : CodeS E B (strip [2] (bodyOf Tryz.f24)) (L 27 (ofL args)) σ (outS E [] (downS Q))) : CallS E B 24 args σ Q :=
  S_callK hB [2] rfl rfl rfl (by kernel_rfl) rfl rfl (by kernel_rfl) hl h
/-- (*towncrier/session.Session).Push -/
theorem call25 {args : List Value} {σ : AHeap} {Q : Value → AHeap → Prop} (hl : args.length ≤ 26) (h : CodeS E B (strip [] (bodyOf Tryz.f25)) (L 26 (ofL args)) σ (outS E [.tmp 4] (downS Q))) : CallS E B 25 args σ Q :=
  S_callK hB [] rfl rfl rfl (by kernel_rfl) rfl rfl (by kernel_rfl) hl h
/-- (*towncrier/session.Session).Next -/
theorem call26 {args : List Value} {σ : AHeap} {Q : Value → AHeap → Prop} (hl : args.length ≤ 57) (h : CodeS E B (strip [] (bodyOf Tryz.f26)) (L 57 (ofL args)) σ (outS E [.cell 4 35, .tmp 5] (downS Q))) : CallS E B 26 args σ Q :=
  S_callK hB [] rfl rfl rfl (by kernel_rfl) rfl rfl (by kernel_rfl) hl h
/-- (*towncrier/session.Session).Ack -/
theorem call27 {args : List Value} {σ : AHeap} {Q : Value → AHeap → Prop} (hl : args.length ≤ 17) (h : CodeS E B (strip [] (bodyOf Tryz.f27)) (L 17 (ofL args)) σ (outS E [.tmp 4, .cell 5 28] (downS Q))) : CallS E B 27 args σ Q :=
  S_callK hB [] rfl rfl rfl (by kernel_rfl) rfl rfl (by kernel_rfl) hl h
/-- (*towncrier/session.Session).End -/
theorem call28 {args : List Value} {σ : AHeap} {Q : Value → AHeap → Prop} (hl : args.length ≤ 14) (h : CodeS E B (strip [] (bodyOf Tryz.f28)) (L 14 (ofL args)) σ (outS E [] (downS Q))) : CallS E B 28 args σ Q :=
  S_callK hB [] rfl rfl rfl (by kernel_rfl) rfl rfl (by kernel_rfl) hl h
/-- (*towncrier/session.Session).Give -/
theorem call29 {args : List Value} {σ : AHeap} {Q : Value → AHeap → Prop} (hl : args.length ≤ 36) (h : CodeS E B (strip [] (bodyOf Tryz.f29)) (L 36 (ofL args)) σ (outS E [.cell 6 35, .tmp 7] (downS Q))) : CallS E B 29 args σ Q :=
  S_callK hB [] rfl rfl rfl (by kernel_rfl) rfl rfl (by kernel_rfl) hl h
/-- (*towncrier/session.Session).Back -/
theorem call30 {args : List Value} {σ : AHeap} {Q : Value → AHeap → Prop} (hl : args.length ≤ 10) (h : CodeS E B (strip [] (bodyOf Tryz.f30)) (L 10 (ofL args)) σ (outS E [.tmp 2] (downS Q))) : CallS E B 30 args σ Q :=
  S_callK hB [] rfl rfl rfl (by kernel_rfl) rfl rfl (by kernel_rfl) hl h
/-- (*towncrier/session.Session).given -/
theorem call31 {args : List Value} {σ : AHeap} {Q : Value → AHeap → Prop} (hl : args.length ≤ 12) (h : CodeS E B (strip [] (bodyOf Tryz.f31)) (L 12 (ofL args)) σ (outS E [.tmp 2] (downS Q))) : CallS E B 31 args σ Q :=
  S_callK hB [] rfl rfl rfl (by kernel_rfl) rfl rfl (by kernel_rfl) hl h
/-- slices.Clone[[]towncrier/api.Prop,towncrier/api.Prop] -/
theorem call32 {args : List Value} {σ : AHeap} {Q : Value → AHeap → Prop} (hl : args.length ≤ 8) (h : CodeS E B (strip [] (bodyOf Tryz.f32)) (L 8 (ofL args)) σ (outS E [.tmp 2] (downS Q))) : CallS E B 32 args σ Q :=
  S_callK hB [] rfl rfl rfl (by kernel_rfl) rfl rfl (by kernel_rfl) hl h
/-- (*towncrier/session.Session).Sub -/
theorem call33 {args : List Value} {σ : AHeap} {Q : Value → AHeap → Prop} (hl : args.length ≤ 27) (h : CodeS E B (strip [4] (bodyOf Tryz.f33)) (L 27 (ofL args)) σ (outS E [.cell 4 25, .tmp 5, .tmp 6] (downS Q))) : CallS E B 33 args σ Q :=
  S_callK hB [4] rfl rfl rfl (by kernel_rfl) rfl rfl (by kernel_rfl) hl h
/-- (*towncrier/outq.Out).Len -/
theorem call36 {args : List Value} {σ : AHeap} {Q : Value → AHeap → Prop} (hl : args.length ≤ 10) (h : CodeS E B (strip [] (bodyOf Tryz.f36)) (L 10 (ofL args)) σ (outS E [.tmp 2] (downS Q))) : CallS E B 36 args σ Q :=
  S_callK hB [] rfl rfl rfl (by kernel_rfl) rfl rfl (by kernel_rfl) hl h
/-- (*towncrier/queue.Queue).All -/
theorem call38 {args : List Value} {σ : AHeap} {Q : Value → AHeap → Prop} (hl : args.length ≤ 10) (h : CodeS E B (strip [] (bodyOf Tryz.f38)) (L 10 (ofL args)) σ (outS E [.tmp 2] (downS Q))) : CallS E B 38 args σ Q :=
  S_callK hB [] rfl rfl rfl (by kernel_rfl) rfl rfl (by kernel_rfl) hl h
/-- (*towncrier/outq.Out).All -/
theorem call39 {args : List Value} {σ : AHeap} {Q : Value → AHeap → Prop} (hl : args.length ≤ 10) (h : CodeS E B (strip [] (bodyOf Tryz.f39)) (L 10 (ofL args)) σ (outS E [.tmp 2] (downS Q))) : CallS E B 39 args σ Q :=
  S_callK hB [] rfl rfl rfl (by kernel_rfl) rfl rfl (by kernel_rfl) hl h
/-- (*towncrier/inq.In).Done -/
theorem call40 {args : List Value} {σ : AHeap} {Q : Value → AHeap → Prop} (hl : args.length ≤ 17) (h : CodeS E B (strip [] (bodyOf Tryz.f40)) (L 17 (ofL args)) σ (outS E [.tmp 4] (downS Q))) : CallS E B 40 args σ Q :=
  S_callK hB [] rfl rfl rfl (by kernel_rfl) rfl rfl (by kernel_rfl) hl h
/-- (*towncrier/inq.In).Release -/
theorem call41 {args : List Value} {σ : AHeap} {Q : Value → AHeap → Prop} (hl : args.length ≤ 14) (h : CodeS E B (strip [] (bodyOf Tryz.f41)) (L 14 (ofL args)) σ (outS E [.tmp 4] (downS Q))) : CallS E B 41 args σ Q :=
  S_callK hB [] rfl rfl rfl (by kernel_rfl) rfl rfl (by kernel_rfl) hl h
/-- towncrier/towncrierref06.Few -/
theorem call42 {args : List Value} {σ : AHeap} {Q : Value → AHeap → Prop} (hl : args.length ≤ 33) (h : CodeS E B (strip [] (bodyOf Tryz.f42)) (L 33 (ofL args)) σ (outS E [.tmp 2] (downS Q))) : CallS E B 42 args σ Q :=
  S_callK hB [] rfl rfl rfl (by kernel_rfl) rfl rfl (by kernel_rfl) hl h
/-- (*towncrier/outq.Out).Ack -/
theorem call53 {args : List Value} {σ : AHeap} {Q : Value → AHeap → Prop} (hl : args.length ≤ 73) (h : CodeS E B (strip [1] (bodyOf Tryz.f53)) (L 73 (ofL args)) σ (outS E [.tmp 4, .cell 5 28] (downS Q))) : CallS E B 53 args σ Q :=
  S_callK hB [1] rfl rfl rfl (by kernel_rfl) rfl rfl (by kernel_rfl) hl h
/-- (*towncrier/outq.Out).Group -/
theorem call55 {args : List Value} {σ : AHeap} {Q : Value → AHeap → Prop} (hl : args.length ≤ 37) (h : CodeS E B (strip [] (bodyOf Tryz.f55)) (L 37 (ofL args)) σ (outS E [.tmp 2] (downS Q))) : CallS E B 55 args σ Q :=
  S_callK hB [] rfl rfl rfl (by kernel_rfl) rfl rfl (by kernel_rfl) hl h
/-- (*towncrier/inq.In).of -/
theorem call64 {args : List Value} {σ : AHeap} {Q : Value → AHeap → Prop} (hl : args.length ≤ 13) (h : CodeS E B (strip [] (bodyOf Tryz.f64)) (L 13 (ofL args)) σ (outS E [.tmp 4] (downS Q))) : CallS E B 64 args σ Q :=
  S_callK hB [] rfl rfl rfl (by kernel_rfl) rfl rfl (by kernel_rfl) hl h
/-- towncrier/queue.come -/
theorem call68 {args : List Value} {σ : AHeap} {Q : Value → AHeap → Prop} (hl : args.length ≤ 14) (h : CodeS E B (strip [] (bodyOf Tryz.f68)) (L 14 (ofL args)) σ (outS E [.tmp 4] (downS Q))) : CallS E B 68 args σ Q :=
  S_callK hB [] rfl rfl rfl (by kernel_rfl) rfl rfl (by kernel_rfl) hl h
/-- (*towncrier/outq.Out).find -/
theorem call70 {args : List Value} {σ : AHeap} {Q : Value → AHeap → Prop} (hl : args.length ≤ 13) (h : CodeS E B (strip [] (bodyOf Tryz.f70)) (L 13 (ofL args)) σ (outS E [.tmp 4] (downS Q))) : CallS E B 70 args σ Q :=
  S_callK hB [] rfl rfl rfl (by kernel_rfl) rfl rfl (by kernel_rfl) hl h
/-- towncrier/outq.awaits -/
theorem call71 {args : List Value} {σ : AHeap} {Q : Value → AHeap → Prop} (hl : args.length ≤ 10) (h : CodeS E B (strip [] (bodyOf Tryz.f71)) (L 10 (ofL args)) σ (outS E [.tmp 2] (downS Q))) : CallS E B 71 args σ Q :=
  S_callK hB [] rfl rfl rfl (by kernel_rfl) rfl rfl (by kernel_rfl) hl h
/-- towncrier/prop.Without -/
theorem call74 {args : List Value} {σ : AHeap} {Q : Value → AHeap → Prop} (hl : args.length ≤ 9) (h : CodeS E B (strip [] (bodyOf Tryz.f74)) (L 9 (ofL args)) σ (outS E [.tmp 4] (downS Q))) : CallS E B 74 args σ Q :=
  S_callK hB [] rfl rfl rfl (by kernel_rfl) rfl rfl (by kernel_rfl) hl h
/-- slices.DeleteFunc[[]towncrier/api.Prop,towncrier/api.Prop] -/
theorem call94 {args : List Value} {σ : AHeap} {Q : Value → AHeap → Prop} (hl : args.length ≤ 42) (h : CodeS E B (strip [] (bodyOf Tryz.f94)) (L 42 (ofL args)) σ (outS E [.tmp 4] (downS Q))) : CallS E B 94 args σ Q :=
  S_callK hB [] rfl rfl rfl (by kernel_rfl) rfl rfl (by kernel_rfl) hl h
/-- towncrier/prop.Without$1 -/
theorem call95 {args : List Value} {σ : AHeap} {Q : Value → AHeap → Prop} (hl : args.length ≤ 8) (h : CodeS E B (strip [] (bodyOf Tryz.f95)) (L 8 (ofL args)) σ (outS E [.tmp 3] (downS Q))) : CallS E B 95 args σ Q :=
  S_callK hB [] rfl rfl rfl (by kernel_rfl) rfl rfl (by kernel_rfl) hl h
/-- slices.IndexFunc[[]towncrier/api.Prop,towncrier/api.Prop] -/
theorem call104 {args : List Value} {σ : AHeap} {Q : Value → AHeap → Prop} (hl : args.length ≤ 19) (h : CodeS E B (strip [] (bodyOf Tryz.f104)) (L 19 (ofL args)) σ (outS E [.tmp 4] (downS Q))) : CallS E B 104 args σ Q :=
  S_callK hB [] rfl rfl rfl (by kernel_rfl) rfl rfl (by kernel_rfl) hl h
end Go.Proofs.YtdiekikcnfjlnaaGreat.AbsA
