/-
  A part of a law's proof.
-/
import Derived.Test.YtkhcbbpfchgemaaAEnvC
namespace Go.Proofs.Ytkhcbbpfchgemaa.AbsA
open Go AbsYtkhcbbpfchgemaa Abs
set_option maxRecDepth 100000
set_option maxHeartbeats 4000000
set_option linter.unusedVariables false
/-- towncrier/towncrierlaw30.SessionOrder -/
theorem call3 {args : List Value} {σ : AHeap} {Q : Value → AHeap → Prop} (hl : args.length ≤ 160) (h : CodeS E B (strip [] (bodyOf Try.f3)) (L 160 (ofL args)) σ (outS E [.tmp 4] (downS Q))) : CallS E B 3 args σ Q :=
  S_callK hB [] rfl rfl rfl (by kernel_rfl) rfl rfl (by kernel_rfl) hl h
/-- towncrier/session.New -/
theorem call7 {args : List Value} {σ : AHeap} {Q : Value → AHeap → Prop} (hl : args.length ≤ 16) (h : CodeS E B (strip [1] (bodyOf Try.f7)) (L 16 (ofL args)) σ (outS E [.tmp 4] (downS Q))) : CallS E B 7 args σ Q :=
  S_callK hB [1] rfl rfl rfl (by kernel_rfl) rfl rfl (by kernel_rfl) hl h
/-- (*towncrier/session.Session).Begin -/
theorem call8 {args : List Value} {σ : AHeap} {Q : Value → AHeap → Prop} (hl : args.length ≤ 27) (h : CodeS E B (strip [2] (bodyOf Try.f8)) (L 27 (ofL args)) σ (outS E [] (downS Q))) : CallS E B 8 args σ Q :=
  S_callK hB [2] rfl rfl rfl (by kernel_rfl) rfl rfl (by kernel_rfl) hl h
/-- towncrier/towncrierref19.Small -/
theorem call9 {args : List Value} {σ : AHeap} {Q : Value → AHeap → Prop} (hl : args.length ≤ 30) (h : CodeS E B (strip [] (bodyOf Try.f9)) (L 30 (ofL args)) σ (outS E [.tmp 2] (downS Q))) : CallS E B 9 args σ Q :=
  S_callK hB [] rfl rfl rfl (by kernel_rfl) rfl rfl (by kernel_rfl) hl h
/-- (*towncrier/session.Session).Push -/
theorem call10 {args : List Value} {σ : AHeap} {Q : Value → AHeap → Prop} (hl : args.length ≤ 26) (h : CodeS E B (strip [] (bodyOf Try.f10)) (L 26 (ofL args)) σ (outS E [.tmp 4] (downS Q))) : CallS E B 10 args σ Q :=
  S_callK hB [] rfl rfl rfl (by kernel_rfl) rfl rfl (by kernel_rfl) hl h
/-- (*towncrier/session.Session).Next -/
theorem call11 {args : List Value} {σ : AHeap} {Q : Value → AHeap → Prop} (hl : args.length ≤ 57) (h : CodeS E B (strip [] (bodyOf Try.f11)) (L 57 (ofL args)) σ (outS E [.cell 4 42, .tmp 5] (downS Q))) : CallS E B 11 args σ Q :=
  S_callK hB [] rfl rfl rfl (by kernel_rfl) rfl rfl (by kernel_rfl) hl h
/-- (*towncrier/session.Session).Flights -/
theorem call12 {args : List Value} {σ : AHeap} {Q : Value → AHeap → Prop} (hl : args.length ≤ 10) (h : CodeS E B (strip [] (bodyOf Try.f12)) (L 10 (ofL args)) σ (outS E [.tmp 2] (downS Q))) : CallS E B 12 args σ Q :=
  S_callK hB [] rfl rfl rfl (by kernel_rfl) rfl rfl (by kernel_rfl) hl h
/-- (*towncrier/session.Session).Ack -/
theorem call13 {args : List Value} {σ : AHeap} {Q : Value → AHeap → Prop} (hl : args.length ≤ 17) (h : CodeS E B (strip [] (bodyOf Try.f13)) (L 17 (ofL args)) σ (outS E [.tmp 4, .cell 5 37] (downS Q))) : CallS E B 13 args σ Q :=
  S_callK hB [] rfl rfl rfl (by kernel_rfl) rfl rfl (by kernel_rfl) hl h
/-- (*towncrier/session.Session).Waiting -/
theorem call14 {args : List Value} {σ : AHeap} {Q : Value → AHeap → Prop} (hl : args.length ≤ 10) (h : CodeS E B (strip [] (bodyOf Try.f14)) (L 10 (ofL args)) σ (outS E [.tmp 2] (downS Q))) : CallS E B 14 args σ Q :=
  S_callK hB [] rfl rfl rfl (by kernel_rfl) rfl rfl (by kernel_rfl) hl h
/-- (*towncrier/session.Session).Online -/
theorem call19 {args : List Value} {σ : AHeap} {Q : Value → AHeap → Prop} (hl : args.length ≤ 11) (h : CodeS E B (strip [] (bodyOf Try.f19)) (L 11 (ofL args)) σ (outS E [.tmp 2] (downS Q))) : CallS E B 19 args σ Q :=
  S_callK hB [] rfl rfl rfl (by kernel_rfl) rfl rfl (by kernel_rfl) hl h
/-- towncrier/inq.New -/
theorem call21 {args : List Value} {σ : AHeap} {Q : Value → AHeap → Prop} (hl : args.length ≤ 7) (h : CodeS E B (strip [] (bodyOf Try.f21)) (L 7 (ofL args)) σ (outS E [.tmp 2] (downS Q))) : CallS E B 21 args σ Q :=
  S_callK hB [] rfl rfl rfl (by kernel_rfl) rfl rfl (by kernel_rfl) hl h
/-- towncrier/outq.New -/
theorem call22 {args : List Value} {σ : AHeap} {Q : Value → AHeap → Prop} (hl : args.length ≤ 4) (h : CodeS E B (strip [] (bodyOf Try.f22)) (L 4 (ofL args)) σ (outS E [.tmp 0] (downS Q))) : CallS E B 22 args σ Q :=
  S_callK hB [] rfl rfl rfl (by kernel_rfl) rfl rfl (by kernel_rfl) hl h
/-- (*towncrier/session.Session).given -/
theorem call24 {args : List Value} {σ : AHeap} {Q : Value → AHeap → Prop} (hl : args.length ≤ 12) (h : CodeS E B (strip [] (bodyOf Try.f24)) (L 12 (ofL args)) σ (outS E [.tmp 2] (downS Q))) : CallS E B 24 args σ Q :=
  S_callK hB [] rfl rfl rfl (by kernel_rfl) rfl rfl (by kernel_rfl) hl h
/-- (*towncrier/session.Session).SetWill -/
theorem call25 {args : List Value} {σ : AHeap} {Q : Value → AHeap → Prop} (hl : args.length ≤ 14) (h : CodeS E B (strip [] (bodyOf Try.f25)) (L 14 (ofL args)) σ (outS E [] (downS Q))) : CallS E B 25 args σ Q :=
  S_callK hB [] rfl rfl rfl (by kernel_rfl) rfl rfl (by kernel_rfl) hl h
/-- (*towncrier/outq.Out).Again -/
theorem call26 {args : List Value} {σ : AHeap} {Q : Value → AHeap → Prop} (hl : args.length ≤ 34) (h : CodeS E B (strip [] (bodyOf Try.f26)) (L 34 (ofL args)) σ (outS E [.tmp 2] (downS Q))) : CallS E B 26 args σ Q :=
  S_callK hB [] rfl rfl rfl (by kernel_rfl) rfl rfl (by kernel_rfl) hl h
/-- towncrier/towncrierref06.Few -/
theorem call27 {args : List Value} {σ : AHeap} {Q : Value → AHeap → Prop} (hl : args.length ≤ 33) (h : CodeS E B (strip [] (bodyOf Try.f27)) (L 33 (ofL args)) σ (outS E [.tmp 2] (downS Q))) : CallS E B 27 args σ Q :=
  S_callK hB [] rfl rfl rfl (by kernel_rfl) rfl rfl (by kernel_rfl) hl h
/-- (*towncrier/session.Session).left -/
theorem call29 {args : List Value} {σ : AHeap} {Q : Value → AHeap → Prop} (hl : args.length ≤ 10) (h : CodeS E B (strip [] (bodyOf Try.f29)) (L 10 (ofL args)) σ (outS E [.tmp 2] (downS Q))) : CallS E B 29 args σ Q :=
  S_callK hB [] rfl rfl rfl (by kernel_rfl) rfl rfl (by kernel_rfl) hl h
/-- (*towncrier/session.Session).may -/
theorem call32 {args : List Value} {σ : AHeap} {Q : Value → AHeap → Prop} (hl : args.length ≤ 13) (h : CodeS E B (strip [] (bodyOf Try.f32)) (L 13 (ofL args)) σ (outS E [.tmp 4] (downS Q))) : CallS E B 32 args σ Q :=
  S_callK hB [] rfl rfl rfl (by kernel_rfl) rfl rfl (by kernel_rfl) hl h
/-- (*towncrier/session.Session).send -/
theorem call34 {args : List Value} {σ : AHeap} {Q : Value → AHeap → Prop} (hl : args.length ≤ 44) (h : CodeS E B (strip [] (bodyOf Try.f34)) (L 44 (ofL args)) σ (outS E [.cell 6 42, .tmp 7] (downS Q))) : CallS E B 34 args σ Q :=
  S_callK hB [] rfl rfl rfl (by kernel_rfl) rfl rfl (by kernel_rfl) hl h
/-- (*towncrier/outq.Out).All -/
theorem call35 {args : List Value} {σ : AHeap} {Q : Value → AHeap → Prop} (hl : args.length ≤ 10) (h : CodeS E B (strip [] (bodyOf Try.f35)) (L 10 (ofL args)) σ (outS E [.tmp 2] (downS Q))) : CallS E B 35 args σ Q :=
  S_callK hB [] rfl rfl rfl (by kernel_rfl) rfl rfl (by kernel_rfl) hl h
/-- (*towncrier/outq.Out).Ack -/
theorem call36 {args : List Value} {σ : AHeap} {Q : Value → AHeap → Prop} (hl : args.length ≤ 73) (h : CodeS E B (strip [1] (bodyOf Try.f36)) (L 73 (ofL args)) σ (outS E [.tmp 4, .cell 5 37] (downS Q))) : CallS E B 36 args σ Q :=
  S_callK hB [1] rfl rfl rfl (by kernel_rfl) rfl rfl (by kernel_rfl) hl h
/-- towncrier/pids.New -/
theorem call41 {args : List Value} {σ : AHeap} {Q : Value → AHeap → Prop} (hl : args.length ≤ 9) (h : CodeS E B (strip [] (bodyOf Try.f41)) (L 9 (ofL args)) σ (outS E [.tmp 2] (downS Q))) : CallS E B 41 args σ Q :=
  S_callK hB [] rfl rfl rfl (by kernel_rfl) rfl rfl (by kernel_rfl) hl h
/-- slices.Clone[[]towncrier/api.Prop,towncrier/api.Prop] -/
theorem call42 {args : List Value} {σ : AHeap} {Q : Value → AHeap → Prop} (hl : args.length ≤ 8) (h : CodeS E B (strip [] (bodyOf Try.f42)) (L 8 (ofL args)) σ (outS E [.tmp 2] (downS Q))) : CallS E B 42 args σ Q :=
  S_callK hB [] rfl rfl rfl (by kernel_rfl) rfl rfl (by kernel_rfl) hl h
/-- towncrier/outq.Packet -/
theorem call43 {args : List Value} {σ : AHeap} {Q : Value → AHeap → Prop} (hl : args.length ≤ 22) (h : CodeS E B (strip [1] (bodyOf Try.f43)) (L 22 (ofL args)) σ (outS E [.cell 8 42] (downS Q))) : CallS E B 43 args σ Q :=
  S_callK hB [1] rfl rfl rfl (by kernel_rfl) rfl rfl (by kernel_rfl) hl h
/-- slices.DeleteFunc[[]towncrier/api.Packet,towncrier/api.Packet] -/
theorem call44 {args : List Value} {σ : AHeap} {Q : Value → AHeap → Prop} (hl : args.length ≤ 42) (h : CodeS E B (strip [] (bodyOf Try.f44)) (L 42 (ofL args)) σ (outS E [.tmp 4] (downS Q))) : CallS E B 44 args σ Q :=
  S_callK hB [] rfl rfl rfl (by kernel_rfl) rfl rfl (by kernel_rfl) hl h
/-- slices.Clone[[]towncrier/api.Packet,towncrier/api.Packet] -/
theorem call45 {args : List Value} {σ : AHeap} {Q : Value → AHeap → Prop} (hl : args.length ≤ 8) (h : CodeS E B (strip [] (bodyOf Try.f45)) (L 8 (ofL args)) σ (outS E [.tmp 2] (downS Q))) : CallS E B 45 args σ Q :=
  S_callK hB [] rfl rfl rfl (by kernel_rfl) rfl rfl (by kernel_rfl) hl h
/-- (*towncrier/outq.Out).Len -/
theorem call48 {args : List Value} {σ : AHeap} {Q : Value → AHeap → Prop} (hl : args.length ≤ 10) (h : CodeS E B (strip [] (bodyOf Try.f48)) (L 10 (ofL args)) σ (outS E [.tmp 2] (downS Q))) : CallS E B 48 args σ Q :=
  S_callK hB [] rfl rfl rfl (by kernel_rfl) rfl rfl (by kernel_rfl) hl h
/-- towncrier/queue.come -/
theorem call50 {args : List Value} {σ : AHeap} {Q : Value → AHeap → Prop} (hl : args.length ≤ 14) (h : CodeS E B (strip [] (bodyOf Try.f50)) (L 14 (ofL args)) σ (outS E [.tmp 4] (downS Q))) : CallS E B 50 args σ Q :=
  S_callK hB [] rfl rfl rfl (by kernel_rfl) rfl rfl (by kernel_rfl) hl h
/-- (*towncrier/session.Session).Room -/
theorem call51 {args : List Value} {σ : AHeap} {Q : Value → AHeap → Prop} (hl : args.length ≤ 24) (h : CodeS E B (strip [3] (bodyOf Try.f51)) (L 24 (ofL args)) σ (outS E [.tmp 2] (downS Q))) : CallS E B 51 args σ Q :=
  S_callK hB [3] rfl rfl rfl (by kernel_rfl) rfl rfl (by kernel_rfl) hl h
/-- (*towncrier/outq.Out).Send -/
theorem call53 {args : List Value} {σ : AHeap} {Q : Value → AHeap → Prop} (hl : args.length ≤ 48) (h : CodeS E B (strip [] (bodyOf Try.f53)) (L 48 (ofL args)) σ (outS E [.tmp 6, .tmp 7] (downS Q))) : CallS E B 53 args σ Q :=
  S_callK hB [] rfl rfl rfl (by kernel_rfl) rfl rfl (by kernel_rfl) hl h
/-- slices.Clone[[]towncrier/api.Flight,towncrier/api.Flight] -/
theorem call54 {args : List Value} {σ : AHeap} {Q : Value → AHeap → Prop} (hl : args.length ≤ 8) (h : CodeS E B (strip [] (bodyOf Try.f54)) (L 8 (ofL args)) σ (outS E [.tmp 2] (downS Q))) : CallS E B 54 args σ Q :=
  S_callK hB [] rfl rfl rfl (by kernel_rfl) rfl rfl (by kernel_rfl) hl h
/-- (*towncrier/outq.Out).find -/
theorem call55 {args : List Value} {σ : AHeap} {Q : Value → AHeap → Prop} (hl : args.length ≤ 13) (h : CodeS E B (strip [] (bodyOf Try.f55)) (L 13 (ofL args)) σ (outS E [.tmp 4] (downS Q))) : CallS E B 55 args σ Q :=
  S_callK hB [] rfl rfl rfl (by kernel_rfl) rfl rfl (by kernel_rfl) hl h
/-- towncrier/outq.awaits -/
theorem call56 {args : List Value} {σ : AHeap} {Q : Value → AHeap → Prop} (hl : args.length ≤ 10) (h : CodeS E B (strip [] (bodyOf Try.f56)) (L 10 (ofL args)) σ (outS E [.tmp 2] (downS Q))) : CallS E B 56 args σ Q :=
  S_callK hB [] rfl rfl rfl (by kernel_rfl) rfl rfl (by kernel_rfl) hl h
/-- towncrier/reason.Bad -/
theorem call57 {args : List Value} {σ : AHeap} {Q : Value → AHeap → Prop} (hl : args.length ≤ 9) (h : CodeS E B (strip [] (bodyOf Try.f57)) (L 9 (ofL args)) σ (outS E [.tmp 2] (downS Q))) : CallS E B 57 args σ Q :=
  S_callK hB [] rfl rfl rfl (by kernel_rfl) rfl rfl (by kernel_rfl) hl h
/-- (*towncrier/outq.Out).end -/
theorem call58 {args : List Value} {σ : AHeap} {Q : Value → AHeap → Prop} (hl : args.length ≤ 29) (h : CodeS E B (strip [] (bodyOf Try.f58)) (L 29 (ofL args)) σ (outS E [] (downS Q))) : CallS E B 58 args σ Q :=
  S_callK hB [] rfl rfl rfl (by kernel_rfl) rfl rfl (by kernel_rfl) hl h
/-- slices.Clone[[]towncrier/api.Msg,towncrier/api.Msg] -/
theorem call59 {args : List Value} {σ : AHeap} {Q : Value → AHeap → Prop} (hl : args.length ≤ 8) (h : CodeS E B (strip [] (bodyOf Try.f59)) (L 8 (ofL args)) σ (outS E [.tmp 2] (downS Q))) : CallS E B 59 args σ Q :=
  S_callK hB [] rfl rfl rfl (by kernel_rfl) rfl rfl (by kernel_rfl) hl h
/-- slices.IndexFunc[[]towncrier/api.Packet,towncrier/api.Packet] -/
theorem call61 {args : List Value} {σ : AHeap} {Q : Value → AHeap → Prop} (hl : args.length ≤ 19) (h : CodeS E B (strip [] (bodyOf Try.f61)) (L 19 (ofL args)) σ (outS E [.tmp 4] (downS Q))) : CallS E B 61 args σ Q :=
  S_callK hB [] rfl rfl rfl (by kernel_rfl) rfl rfl (by kernel_rfl) hl h
/-- (*towncrier/pids.Pids).Next -/
theorem call65 {args : List Value} {σ : AHeap} {Q : Value → AHeap → Prop} (hl : args.length ≤ 41) (h : CodeS E B (strip [] (bodyOf Try.f65)) (L 41 (ofL args)) σ (outS E [.tmp 2, .tmp 3] (downS Q))) : CallS E B 65 args σ Q :=
  S_callK hB [] rfl rfl rfl (by kernel_rfl) rfl rfl (by kernel_rfl) hl h
/-- slices.IndexFunc[[]towncrier/api.Flight,towncrier/api.Flight] -/
theorem call66 {args : List Value} {σ : AHeap} {Q : Value → AHeap → Prop} (hl : args.length ≤ 19) (h : CodeS E B (strip [] (bodyOf Try.f66)) (L 19 (ofL args)) σ (outS E [.tmp 4] (downS Q))) : CallS E B 66 args σ Q :=
  S_callK hB [] rfl rfl rfl (by kernel_rfl) rfl rfl (by kernel_rfl) hl h
/-- (*towncrier/outq.Out).find$1 -/
theorem call67 {args : List Value} {σ : AHeap} {Q : Value → AHeap → Prop} (hl : args.length ≤ 8) (h : CodeS E B (strip [] (bodyOf Try.f67)) (L 8 (ofL args)) σ (outS E [.tmp 3] (downS Q))) : CallS E B 67 args σ Q :=
  S_callK hB [] rfl rfl rfl (by kernel_rfl) rfl rfl (by kernel_rfl) hl h
/-- (*towncrier/pids.Pids).Free -/
theorem call68 {args : List Value} {σ : AHeap} {Q : Value → AHeap → Prop} (hl : args.length ≤ 16) (h : CodeS E B (strip [] (bodyOf Try.f68)) (L 16 (ofL args)) σ (outS E [.tmp 4] (downS Q))) : CallS E B 68 args σ Q :=
  S_callK hB [] rfl rfl rfl (by kernel_rfl) rfl rfl (by kernel_rfl) hl h
/-- slices.Delete[[]towncrier/api.Flight,towncrier/api.Flight] -/
theorem call69 {args : List Value} {σ : AHeap} {Q : Value → AHeap → Prop} (hl : args.length ≤ 33) (h : CodeS E B (strip [] (bodyOf Try.f69)) (L 33 (ofL args)) σ (outS E [.tmp 6] (downS Q))) : CallS E B 69 args σ Q :=
  S_callK hB [] rfl rfl rfl (by kernel_rfl) rfl rfl (by kernel_rfl) hl h
/-- (*towncrier/pids.Pids).Use -/
theorem call72 {args : List Value} {σ : AHeap} {Q : Value → AHeap → Prop} (hl : args.length ≤ 32) (h : CodeS E B (strip [] (bodyOf Try.f72)) (L 32 (ofL args)) σ (outS E [.tmp 4] (downS Q))) : CallS E B 72 args σ Q :=
  S_callK hB [] rfl rfl rfl (by kernel_rfl) rfl rfl (by kernel_rfl) hl h
/-- (*towncrier/pids.Pids).Is -/
theorem call73 {args : List Value} {σ : AHeap} {Q : Value → AHeap → Prop} (hl : args.length ≤ 15) (h : CodeS E B (strip [] (bodyOf Try.f73)) (L 15 (ofL args)) σ (outS E [.tmp 4] (downS Q))) : CallS E B 73 args σ Q :=
  S_callK hB [] rfl rfl rfl (by kernel_rfl) rfl rfl (by kernel_rfl) hl h
end Go.Proofs.Ytkhcbbpfchgemaa.AbsA
