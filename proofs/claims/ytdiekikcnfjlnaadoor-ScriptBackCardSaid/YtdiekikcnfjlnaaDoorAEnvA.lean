/-
  DERIVED. Printed by a program of this session (Gen.lean): the abstract machine's environment of this seat's program.
-/
import Derived.Test.YtdiekikcnfjlnaaDoorProg
import Derived.KernelRfl
import Derived.Test.YtdiekikcnfjlnaaDoorAMd
import Derived.Test.YtdiekikcnfjlnaaDoorAErrW
namespace Go.Proofs.YtdiekikcnfjlnaaDoor.Abs
open Go AbsYtdiekikcnfjlnaaDoor
def ty : Tr TI :=
 (.nd (some ⟨.other,1,0,none,true⟩)
 (.nd (some ⟨.func,1,8,some [.func],true⟩)
 (.nd (some ⟨(.int .i64),1,8,some [.int .i64 0],true⟩)
 (.nd (some ⟨(.struct [(0,2,false),(1,3,false),(2,4,false),(3,6,false)]),4,24,some [.int .i64 0,.int .i64 0,.bool false,.int .u8 0],true⟩)
 (.nd (some ⟨(.ptr 97),1,8,some [.ptr],true⟩)
 (.nd (some ⟨.other,1,0,none,true⟩)
 (.nd (some ⟨(.struct [(0,3,false),(1,3,false),(2,3,false)]),3,24,some [.int .i64 0,.int .i64 0,.int .i64 0],true⟩)
 (.nd (some ⟨(.int .i32),1,4,some [.int .i32 0],true⟩)
 .lf .lf) .lf) (.nd (some ⟨(.ptr 119),1,8,some [.ptr],true⟩)
 .lf .lf)) (.nd (some ⟨(.slice 3),1,24,some [.slice],true⟩)
 (.nd (some ⟨.func,1,8,some [.func],true⟩)
 .lf .lf) (.nd (some ⟨.func,1,8,some [.func],true⟩)
 .lf .lf))) (.nd (some ⟨(.struct [(0,3,false),(1,3,false),(2,3,false),(3,3,false),(4,3,false),(5,3,false),(6,3,false),(7,3,false),(8,3,false),(9,3,false),(10,3,false),(11,3,false),(12,3,false)]),13,104,some [.int .i64 0,.int .i64 0,.int .i64 0,.int .i64 0,.int .i64 0,.int .i64 0,.int .i64 0,.int .i64 0,.int .i64 0,.int .i64 0,.int .i64 0,.int .i64 0,.int .i64 0],true⟩)
 (.nd (some ⟨.func,1,8,some [.func],true⟩)
 (.nd (some ⟨.func,1,8,some [.func],true⟩)
 .lf .lf) (.nd (some ⟨(.int .u8),1,1,some [.int .u8 0],true⟩)
 .lf .lf)) (.nd (some ⟨.func,1,8,some [.func],true⟩)
 (.nd (some ⟨(.struct [(0,17,false)]),1,8,some [.ptr],false⟩)
 .lf .lf) (.nd (some ⟨(.struct [(0,9,false)]),1,16,some [.str],true⟩)
 .lf .lf)))) (.nd (some ⟨.string,1,16,some [.str],true⟩)
 (.nd (some ⟨(.struct [(0,17,false)]),1,8,some [.ptr],false⟩)
 (.nd (some ⟨(.struct [(0,3,false),(1,3,false),(2,9,false),(3,3,false)]),4,40,some [.int .i64 0,.int .i64 0,.str,.int .i64 0],true⟩)
 (.nd (some ⟨.func,1,8,some [.func],true⟩)
 .lf .lf) (.nd (some ⟨(.struct [(0,98,true)]),0,0,some [],false⟩)
 .lf .lf)) (.nd (some ⟨.func,1,8,some [.func],true⟩)
 (.nd (some ⟨(.arr 13 3),13,104,some [.int .i64 0,.int .i64 0,.int .i64 0,.int .i64 0,.int .i64 0,.int .i64 0,.int .i64 0,.int .i64 0,.int .i64 0,.int .i64 0,.int .i64 0,.int .i64 0,.int .i64 0],true⟩)
 .lf .lf) (.nd (some ⟨.func,1,8,some [.func],true⟩)
 .lf .lf))) (.nd (some ⟨(.iface false),1,16,some [.iface],false⟩)
 (.nd (some ⟨(.slice 5),1,24,some [.slice],true⟩)
 (.nd (some ⟨.other,1,0,none,true⟩)
 .lf .lf) (.nd (some ⟨(.int .i32),1,4,some [.int .i32 0],true⟩)
 .lf .lf)) (.nd (some ⟨.func,1,8,some [.func],true⟩)
 (.nd (some ⟨.func,1,8,some [.func],true⟩)
 .lf .lf) (.nd (some ⟨(.int .u16),1,2,some [.int .u16 0],true⟩)
 .lf .lf))))) (.nd (some ⟨(.int .u8),1,1,some [.int .u8 0],true⟩)
 (.nd (some ⟨.string,1,16,some [.str],true⟩)
 (.nd (some ⟨(.ptr 109),1,8,some [.ptr],true⟩)
 (.nd (some ⟨.func,1,8,some [.func],true⟩)
 (.nd (some ⟨(.struct [(0,3,false),(1,3,false),(2,28,false)]),3,32,some [.int .i64 0,.int .i64 0,.iface],false⟩)
 (.nd (some ⟨(.struct [(0,106,false),(1,107,false),(2,127,false),(3,127,false)]),4,16,some [.int .i32 0,.int .i32 0,.int .i32 0,.int .i32 0],false⟩)
 .lf .lf) .lf) (.nd (some ⟨(.struct [(0,17,false),(1,17,false),(2,17,false),(3,9,false)]),4,40,some [.ptr,.ptr,.ptr,.str],false⟩)
 .lf .lf)) (.nd (some ⟨.func,1,8,some [.func],true⟩)
 (.nd (some ⟨.func,1,8,some [.func],true⟩)
 .lf .lf) (.nd (some ⟨.func,1,8,some [.func],true⟩)
 .lf .lf))) (.nd (some ⟨.func,1,8,some [.func],true⟩)
 (.nd (some ⟨.func,1,8,some [.func],true⟩)
 (.nd (some ⟨.func,1,8,some [.func],true⟩)
 .lf .lf) (.nd (some ⟨(.ptr 5),1,8,some [.ptr],true⟩)
 .lf .lf)) (.nd (some ⟨.func,1,8,some [.func],true⟩)
 (.nd (some ⟨(.iface false),1,16,some [.iface],false⟩)
 .lf .lf) (.nd (some ⟨(.ptr 125),1,8,some [.ptr],true⟩)
 .lf .lf)))) (.nd (some ⟨(.struct [(0,9,false),(1,12,false)]),2,24,some [.str,.int .u64 0],false⟩)
 (.nd (some ⟨(.int .i32),1,4,some [.int .i32 0],true⟩)
 (.nd (some ⟨.func,1,8,some [.func],true⟩)
 (.nd (some ⟨(.struct [(0,9,false),(1,3,false),(2,28,false)]),3,40,some [.str,.int .i64 0,.iface],false⟩)
 .lf .lf) (.nd (some ⟨(.int .u32),1,4,some [.int .u32 0],true⟩)
 .lf .lf)) (.nd (some ⟨.func,1,8,some [.func],true⟩)
 (.nd (some ⟨.func,1,8,some [.func],true⟩)
 .lf .lf) (.nd (some ⟨(.struct [(0,9,false),(1,103,false)]),2,24,some [.str,.int .u8 0],false⟩)
 .lf .lf))) (.nd (some ⟨.other,1,0,none,true⟩)
 (.nd (some ⟨(.struct [(0,43,false),(1,28,false)]),2,40,some [.slice,.iface],false⟩)
 (.nd (some ⟨(.iface false),1,16,some [.iface],false⟩)
 .lf .lf) (.nd (some ⟨(.struct [(0,12,false),(1,12,false),(2,101,false),(3,102,false),(4,5,false),(5,5,false),(6,103,false),(7,104,false),(8,105,false),(9,106,false),(10,107,false)]),11,48,some [.int .u64 0,.int .u64 0,.int .u32 0,.int .u8 0,.int .u8 0,.int .u8 0,.int .u8 0,.func,.ptr,.int .i32 0,.int .i32 0],false⟩)
 .lf .lf)) (.nd (some ⟨.func,1,8,some [.func],true⟩)
 (.nd (some ⟨(.iface false),1,16,some [.iface],false⟩)
 .lf .lf) (.nd (some ⟨(.struct [(0,106,false),(1,123,false),(2,123,false),(3,101,false),(4,101,true)]),5,16,some [.int .i32 0,.int .u16 0,.int .u16 0,.int .u32 0,.int .u32 0],false⟩)
 .lf .lf)))))) (.nd (some ⟨(.int .i64),1,8,some [.int .i64 0],true⟩)
 (.nd (some ⟨.bool,1,1,some [.bool false],true⟩)
 (.nd (some ⟨(.struct [(0,2,false),(1,3,false),(2,4,false),(3,6,false)]),4,24,some [.int .i64 0,.int .i64 0,.bool false,.int .u8 0],true⟩)
 (.nd (some ⟨(.ptr 100),1,8,some [.ptr],true⟩)
 (.nd (some ⟨.func,1,8,some [.func],true⟩)
 (.nd (some ⟨(.ptr 66),1,8,some [.ptr],true⟩)
 (.nd (some ⟨(.struct [(0,106,false),(1,107,false),(2,127,false),(3,127,false)]),4,16,some [.int .i32 0,.int .i32 0,.int .i32 0,.int .i32 0],false⟩)
 .lf .lf) .lf) (.nd (some ⟨(.struct [(0,17,false),(1,17,false),(2,17,false),(3,9,false)]),4,40,some [.ptr,.ptr,.ptr,.str],false⟩)
 .lf .lf)) (.nd (some ⟨.func,1,8,some [.func],true⟩)
 (.nd (some ⟨.func,1,8,some [.func],true⟩)
 .lf .lf) (.nd (some ⟨.func,1,8,some [.func],true⟩)
 .lf .lf))) (.nd (some ⟨(.slice 36),1,24,some [.slice],true⟩)
 (.nd (some ⟨.func,1,8,some [.func],true⟩)
 (.nd (some ⟨.other,1,0,none,true⟩)
 .lf .lf) (.nd (some ⟨.func,1,8,some [.func],true⟩)
 .lf .lf)) (.nd (some ⟨.other,1,0,none,true⟩)
 (.nd (some ⟨(.ptr 117),1,8,some [.ptr],true⟩)
 .lf .lf) (.nd (some ⟨.other,1,8,some [.ptr],true⟩)
 .lf .lf)))) (.nd (some ⟨(.int .u64),1,8,some [.int .u64 0],true⟩)
 (.nd (some ⟨(.iface true),1,16,some [.iface],true⟩)
 (.nd (some ⟨(.struct [(0,3,false),(1,3,false),(2,9,false),(3,3,false)]),4,40,some [.int .i64 0,.int .i64 0,.str,.int .i64 0],true⟩)
 (.nd (some ⟨.func,1,8,some [.func],true⟩)
 .lf .lf) (.nd (some ⟨(.struct [(0,98,true)]),0,0,some [],false⟩)
 .lf .lf)) (.nd (some ⟨(.ptr 70),1,8,some [.ptr],true⟩)
 (.nd (some ⟨.func,1,8,some [.func],true⟩)
 .lf .lf) (.nd (some ⟨(.struct [(0,9,false),(1,103,false)]),2,24,some [.str,.int .u8 0],false⟩)
 .lf .lf))) (.nd (some ⟨(.iface false),1,16,some [.iface],false⟩)
 (.nd (some ⟨(.struct [(0,43,false),(1,28,false)]),2,40,some [.slice,.iface],false⟩)
 (.nd (some ⟨.func,1,8,some [.func],true⟩)
 .lf .lf) (.nd (some ⟨(.struct [(0,12,false),(1,12,false),(2,101,false),(3,102,false),(4,5,false),(5,5,false),(6,103,false),(7,104,false),(8,105,false),(9,106,false),(10,107,false)]),11,48,some [.int .u64 0,.int .u64 0,.int .u32 0,.int .u8 0,.int .u8 0,.int .u8 0,.int .u8 0,.func,.ptr,.int .i32 0,.int .i32 0],false⟩)
 .lf .lf)) (.nd (some ⟨(.slice 63),1,24,some [.slice],true⟩)
 (.nd (some ⟨(.iface false),1,16,some [.iface],false⟩)
 .lf .lf) (.nd (some ⟨(.struct [(0,106,false),(1,123,false),(2,123,false),(3,101,false),(4,101,true)]),5,16,some [.int .i32 0,.int .u16 0,.int .u16 0,.int .u32 0,.int .u32 0],false⟩)
 .lf .lf))))) (.nd (some ⟨(.int .u8),1,1,some [.int .u8 0],true⟩)
 (.nd (some ⟨.string,1,16,some [.str],true⟩)
 (.nd (some ⟨(.struct [(0,17,false)]),1,8,some [.ptr],false⟩)
 (.nd (some ⟨.func,1,8,some [.func],true⟩)
 (.nd (some ⟨(.struct [(0,3,false),(1,3,false),(2,28,false)]),3,32,some [.int .i64 0,.int .i64 0,.iface],false⟩)
 (.nd (some ⟨.func,1,8,some [.func],true⟩)
 .lf .lf) .lf) (.nd (some ⟨(.arr 0 16),0,0,some [],true⟩)
 .lf .lf)) (.nd (some ⟨.func,1,8,some [.func],true⟩)
 (.nd (some ⟨(.int .u64),1,8,some [.int .u64 0],true⟩)
 .lf .lf) (.nd (some ⟨.func,1,8,some [.func],true⟩)
 .lf .lf))) (.nd (some ⟨.func,1,8,some [.func],true⟩)
 (.nd (some ⟨(.ptr 45),1,8,some [.ptr],true⟩)
 (.nd (some ⟨.func,1,8,some [.func],true⟩)
 .lf .lf) (.nd (some ⟨(.int .i32),1,4,some [.int .i32 0],true⟩)
 .lf .lf)) (.nd (some ⟨(.slice 28),1,24,some [.slice],true⟩)
 (.nd (some ⟨.other,1,0,none,true⟩)
 .lf .lf) (.nd (some ⟨.func,1,8,some [.func],true⟩)
 .lf .lf)))) (.nd (some ⟨(.struct [(0,9,false),(1,12,false)]),2,24,some [.str,.int .u64 0],false⟩)
 (.nd (some ⟨(.struct [(0,3,false),(1,3,false),(2,3,false),(3,3,false),(4,3,false),(5,3,false),(6,3,false),(7,3,false),(8,3,false),(9,3,false),(10,3,false),(11,3,false),(12,3,false)]),13,104,some [.int .i64 0,.int .i64 0,.int .i64 0,.int .i64 0,.int .i64 0,.int .i64 0,.int .i64 0,.int .i64 0,.int .i64 0,.int .i64 0,.int .i64 0,.int .i64 0,.int .i64 0],true⟩)
 (.nd (some ⟨(.int .i64),1,8,some [.int .i64 0],true⟩)
 (.nd (some ⟨(.struct [(0,9,false),(1,3,false),(2,28,false)]),3,40,some [.str,.int .i64 0,.iface],false⟩)
 .lf .lf) (.nd (some ⟨(.int .u8),1,1,some [.int .u8 0],true⟩)
 .lf .lf)) (.nd (some ⟨.other,1,0,none,true⟩)
 (.nd (some ⟨(.struct [(0,17,false)]),1,8,some [.ptr],false⟩)
 .lf .lf) (.nd (some ⟨(.struct [(0,9,false)]),1,16,some [.str],true⟩)
 .lf .lf))) (.nd (some ⟨.func,1,8,some [.func],true⟩)
 (.nd (some ⟨.func,1,8,some [.func],true⟩)
 (.nd (some ⟨(.iface false),1,16,some [.iface],false⟩)
 .lf .lf) (.nd (some ⟨.func,1,8,some [.func],true⟩)
 .lf .lf)) (.nd (some ⟨(.struct [(0,3,false),(1,3,false),(2,3,false)]),3,24,some [.int .i64 0,.int .i64 0,.int .i64 0],true⟩)
 (.nd (some ⟨.func,1,8,some [.func],true⟩)
 .lf .lf) (.nd (some ⟨(.slice 129),1,24,some [.slice],true⟩)
 .lf .lf)))))))
noncomputable def fn : Tr Func :=
 (.nd none
 (.nd none
 (.nd (some Tryd.f3)
 (.nd (some Tryd.f7)
 (.nd (some Tryd.f15)
 (.nd (some Tryd.f31)
 (.nd none
 .lf .lf) .lf) (.nd none
 (.nd none
 .lf .lf) .lf)) (.nd (some Tryd.f23)
 (.nd (some Tryd.f39)
 (.nd none
 .lf .lf) .lf) (.nd none
 (.nd none
 .lf .lf) .lf))) (.nd (some Tryd.f11)
 (.nd (some Tryd.f19)
 (.nd (some Tryd.f35)
 (.nd none
 .lf .lf) .lf) (.nd none
 (.nd none
 .lf .lf) .lf)) (.nd (some Tryd.f27)
 (.nd (some Tryd.f43)
 (.nd none
 .lf .lf) .lf) (.nd none
 .lf .lf)))) (.nd (some Tryd.f5)
 (.nd (some Tryd.f9)
 (.nd (some Tryd.f17)
 (.nd (some Tryd.f33)
 (.nd none
 .lf .lf) .lf) (.nd none
 (.nd none
 .lf .lf) .lf)) (.nd (some Tryd.f25)
 (.nd (some Tryd.f41)
 (.nd none
 .lf .lf) .lf) (.nd none
 .lf .lf))) (.nd (some Tryd.f13)
 (.nd (some Tryd.f21)
 (.nd (some Tryd.f37)
 (.nd none
 .lf .lf) .lf) (.nd none
 (.nd none
 .lf .lf) .lf)) (.nd (some Tryd.f29)
 (.nd (some Tryd.f45)
 (.nd none
 .lf .lf) .lf) (.nd none
 .lf .lf))))) (.nd (some Tryd.f2)
 (.nd (some Tryd.f4)
 (.nd (some Tryd.f8)
 (.nd (some Tryd.f16)
 (.nd (some Tryd.f32)
 (.nd none
 .lf .lf) .lf) (.nd none
 (.nd none
 .lf .lf) .lf)) (.nd (some Tryd.f24)
 (.nd (some Tryd.f40)
 (.nd none
 .lf .lf) .lf) (.nd none
 (.nd (some Tryd.f88)
 .lf .lf) .lf))) (.nd (some Tryd.f12)
 (.nd (some Tryd.f20)
 (.nd none
 (.nd none
 .lf .lf) .lf) (.nd none
 (.nd none
 .lf .lf) .lf)) (.nd (some Tryd.f28)
 (.nd (some Tryd.f44)
 (.nd none
 .lf .lf) .lf) (.nd none
 .lf .lf)))) (.nd (some Tryd.f6)
 (.nd (some Tryd.f10)
 (.nd (some Tryd.f18)
 (.nd (some Tryd.f34)
 (.nd none
 .lf .lf) .lf) (.nd none
 (.nd none
 .lf .lf) .lf)) (.nd (some Tryd.f26)
 (.nd (some Tryd.f42)
 (.nd none
 .lf .lf) .lf) (.nd none
 .lf .lf))) (.nd (some Tryd.f14)
 (.nd (some Tryd.f22)
 (.nd (some Tryd.f38)
 (.nd none
 .lf .lf) .lf) (.nd none
 (.nd none
 .lf .lf) .lf)) (.nd (some Tryd.f30)
 (.nd none
 (.nd (some Tryd.f78)
 .lf .lf) .lf) (.nd (some Tryd.f62)
 .lf .lf))))))
def ng : Nat := 7
def dp : Nat → Bool := fun t => [24,47,58,60,66].any (Nat.beq t)
noncomputable def E00 (nb : Nat) : Env := { P := Tryd.prog,ty := ty,fn := fn,sp := fun _ => none,ng := ng,nb := nb,dp := fun t => Nat.beq t 66 }
noncomputable def E0 (nb : Nat) : Env := { P := Tryd.prog,ty := ty,fn := fn,sp := fun _ => none,ng := ng,nb := nb,dp := dp }
set_option maxRecDepth 100000
theorem ty_ok : TyOk (E00 0) := tyOk_of 8 (by kernel_rfl) (by kernel_rfl)
theorem fn_ok : ∀ f F,(E00 0).fn.get f = some F → FnOk (E00 0) f F := fnOk_of 7 (by kernel_rfl) (by kernel_rfl) (by kernel_rfl)
theorem env0_ok (nb : Nat) : EnvOk (E0 nb) := ⟨⟨ty_ok.ty⟩,fun f F h => ⟨(fn_ok f F h).at',(fn_ok f F h).name,(fn_ok f F h).code⟩,by kernel_rfl,fun f g args H r H' h => by cases h⟩
theorem env00_ok (nb : Nat) : EnvOk (E00 nb) := ⟨⟨ty_ok.ty⟩,fun f F h => ⟨(fn_ok f F h).at',(fn_ok f F h).name,(fn_ok f F h).code⟩,by kernel_rfl,fun f g args H r H' h => by cases h⟩
def ec : ErrT := ⟨24,24,95,64,0,87,28,7,7⟩
theorem ec_ok : ErrIs Tryd.prog ec where
 enIs args w := run_enter Tryd.func24 (by kernel_rfl) (show Tryd.f24.body = some (bodyOf Tryd.f24) from rfl) args w
 nilIs b w := Err.is_nil b w
 bareSame b w := Err.is_same b w
 bareOther b a ca cb ta tb w h1 h2 h3 := Err.is_other a b ca cb ta tb w h1 h2 h3
 wrapSame p ps b w hl h := by
  rcases ps with _ | ⟨q,_ | ⟨r,_ | ⟨s,_ | ⟨u,l⟩⟩⟩⟩
  ·exact Err.is_wrap_same1 p.1 p.2 b w h
  ·exact Err.is_wrap_same2 p.1 p.2 q.1 q.2 b w h.1 h.2
  ·exact Err.is_wrap_same3 p.1 p.2 q.1 q.2 r.1 r.2 b w h.1 h.2.1 h.2.2
  ·exact Err.is_wrap_same4 p.1 p.2 q.1 q.2 r.1 r.2 s.1 s.2 b w h.1 h.2.1 h.2.2.1 h.2.2.2
  ·simp only [List.length_cons] at hl; omega
 wrapOther p ps b a ca cb ta tb w hl h h1 h2 h3 := by
  rcases ps with _ | ⟨q,_ | ⟨r,_ | ⟨s,_ | ⟨u,l⟩⟩⟩⟩
  ·exact Err.is_wrap_other1 p.1 p.2 b a ca cb ta tb w h h1 h2 h3
  ·exact Err.is_wrap_other2 p.1 p.2 q.1 q.2 b a ca cb ta tb w h.1 h.2 h1 h2 h3
  ·exact Err.is_wrap_other3 p.1 p.2 q.1 q.2 r.1 r.2 b a ca cb ta tb w h.1 h.2.1 h.2.2 h1 h2 h3
  ·exact Err.is_wrap_other4 p.1 p.2 q.1 q.2 r.1 r.2 s.1 s.2 b a ca cb ta tb w h.1 h.2.1 h.2.2.1 h.2.2.2 h1 h2 h3
  ·simp only [List.length_cons] at hl; omega
def handle : Nat × Value := (7,.nilIface)
end Go.Proofs.YtdiekikcnfjlnaaDoor.Abs
