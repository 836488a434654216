/-
  DERIVED. Printed by a program of this session (Gen.lean): the abstract machine's environment of this seat's program.
-/
import Derived.Test.YtkhcbbpfchgemaaDoorProg
import Derived.KernelRfl
import Derived.Test.YtkhcbbpfchgemaaDoorAMd
import Derived.Test.YtkhcbbpfchgemaaDoorAErrW
namespace Go.Proofs.YtkhcbbpfchgemaaDoor.Abs
open Go AbsYtkhcbbpfchgemaaDoor
def ty : Tr TI :=
 (.nd (some ⟨.other,1,0,none,true⟩)
 (.nd (some ⟨.func,1,8,some [.func],true⟩)
 (.nd (some ⟨(.int .i64),1,8,some [.int .i64 0],true⟩)
 (.nd (some ⟨(.struct [(0,2,false),(1,3,false),(2,4,false),(3,6,false)]),4,24,some [.int .i64 0,.int .i64 0,.bool false,.int .u8 0],true⟩)
 (.nd (some ⟨(.ptr 137),1,8,some [.ptr],true⟩)
 (.nd (some ⟨(.struct [(0,3,false),(1,9,false),(2,3,false),(3,30,false)]),12,152,some [.int .i64 0,.str,.int .i64 0,.str,.str,.int .i64 0,.bool false,.slice,.str,.int .i64 0,.int .i64 0,.str],true⟩)
 (.nd (some ⟨.func,1,8,some [.func],true⟩)
 (.nd (some ⟨(.iface false),1,16,some [.iface],false⟩)
 .lf .lf) .lf) (.nd (some ⟨.func,1,8,some [.func],true⟩)
 (.nd (some ⟨(.struct [(0,146,false),(1,158,false),(2,158,false),(3,142,false),(4,142,true)]),5,16,some [.int .i32 0,.int .u16 0,.int .u16 0,.int .u32 0,.int .u32 0],false⟩)
 .lf .lf) .lf)) (.nd (some ⟨.func,1,8,some [.func],true⟩)
 (.nd (some ⟨.other,1,0,none,true⟩)
 (.nd (some ⟨(.int .u8),1,1,some [.int .u8 0],true⟩)
 .lf .lf) .lf) (.nd (some ⟨.func,1,8,some [.func],true⟩)
 .lf .lf))) (.nd (some ⟨.func,1,8,some [.func],true⟩)
 (.nd (some ⟨.func,1,8,some [.func],true⟩)
 (.nd (some ⟨.func,1,8,some [.func],true⟩)
 (.nd (some ⟨(.ptr 155),1,8,some [.ptr],true⟩)
 .lf .lf) .lf) (.nd (some ⟨(.int .u64),1,8,some [.int .u64 0],true⟩)
 .lf .lf)) (.nd (some ⟨(.ptr 58),1,8,some [.ptr],true⟩)
 (.nd (some ⟨.func,1,8,some [.func],true⟩)
 (.nd (some ⟨.func,1,8,some [.func],true⟩)
 .lf .lf) .lf) (.nd (some ⟨(.ptr 153),1,8,some [.ptr],true⟩)
 .lf .lf)))) (.nd (some ⟨.string,1,16,some [.str],true⟩)
 (.nd (some ⟨(.struct [(0,17,false)]),1,8,some [.ptr],false⟩)
 (.nd (some ⟨.other,1,0,none,true⟩)
 (.nd (some ⟨.func,1,8,some [.func],true⟩)
 (.nd (some ⟨.func,1,8,some [.func],true⟩)
 .lf .lf) .lf) (.nd (some ⟨.func,1,8,some [.func],true⟩)
 (.nd (some ⟨(.struct [(0,146,false),(1,147,false),(2,162,false),(3,162,false)]),4,16,some [.int .i32 0,.int .i32 0,.int .i32 0,.int .i32 0],false⟩)
 .lf .lf) .lf)) (.nd (some ⟨.func,1,8,some [.func],true⟩)
 (.nd (some ⟨.func,1,8,some [.func],true⟩)
 (.nd (some ⟨(.int .i32),1,4,some [.int .i32 0],true⟩)
 .lf .lf) .lf) (.nd (some ⟨.func,1,8,some [.func],true⟩)
 .lf .lf))) (.nd (some ⟨.func,1,8,some [.func],true⟩)
 (.nd (some ⟨.func,1,8,some [.func],true⟩)
 (.nd (some ⟨.func,1,8,some [.func],true⟩)
 (.nd (some ⟨(.struct [(0,138,true)]),0,0,some [],false⟩)
 .lf .lf) .lf) (.nd (some ⟨(.iface false),1,16,some [.iface],false⟩)
 .lf .lf)) (.nd (some ⟨.func,1,8,some [.func],true⟩)
 (.nd (some ⟨.func,1,8,some [.func],true⟩)
 (.nd (some ⟨(.struct [(0,9,false)]),1,16,some [.str],true⟩)
 .lf .lf) .lf) (.nd (some ⟨(.iface false),1,16,some [.iface],false⟩)
 .lf .lf))))) (.nd (some ⟨(.int .u8),1,1,some [.int .u8 0],true⟩)
 (.nd (some ⟨.string,1,16,some [.str],true⟩)
 (.nd (some ⟨(.ptr 149),1,8,some [.ptr],true⟩)
 (.nd (some ⟨(.iface false),1,16,some [.iface],false⟩)
 (.nd (some ⟨(.struct [(0,9,false),(1,3,false),(2,34,false)]),3,40,some [.str,.int .i64 0,.iface],false⟩)
 (.nd (some ⟨.func,1,8,some [.func],true⟩)
 .lf .lf) .lf) (.nd (some ⟨(.ptr 72),1,8,some [.ptr],true⟩)
 (.nd (some ⟨(.slice 164),1,24,some [.slice],true⟩)
 .lf .lf) .lf)) (.nd (some ⟨.func,1,8,some [.func],true⟩)
 (.nd (some ⟨.func,1,8,some [.func],true⟩)
 (.nd (some ⟨(.ptr 5),1,8,some [.ptr],true⟩)
 .lf .lf) .lf) (.nd (some ⟨.func,1,8,some [.func],true⟩)
 .lf .lf))) (.nd (some ⟨.other,1,0,none,true⟩)
 (.nd (some ⟨.func,1,8,some [.func],true⟩)
 (.nd (some ⟨(.struct [(0,3,false),(1,3,false),(2,34,false)]),3,32,some [.int .i64 0,.int .i64 0,.iface],false⟩)
 (.nd (some ⟨(.struct [(0,17,false),(1,17,false),(2,17,false),(3,9,false)]),4,40,some [.ptr,.ptr,.ptr,.str],false⟩)
 .lf .lf) .lf) (.nd (some ⟨(.struct [(0,17,false),(1,102,false),(2,103,false)]),3,24,some [.ptr,.ptr,.int .u64 0],false⟩)
 .lf .lf)) (.nd (some ⟨(.struct [(0,56,false),(1,34,false)]),2,40,some [.slice,.iface],false⟩)
 (.nd (some ⟨.func,1,8,some [.func],true⟩)
 (.nd (some ⟨(.struct [(0,9,false),(1,110,false)]),2,24,some [.str,.int .u8 0],false⟩)
 .lf .lf) .lf) (.nd (some ⟨.func,1,8,some [.func],true⟩)
 .lf .lf)))) (.nd (some ⟨(.struct [(0,9,false),(1,12,false)]),2,24,some [.str,.int .u64 0],false⟩)
 (.nd (some ⟨(.int .i32),1,4,some [.int .i32 0],true⟩)
 (.nd (some ⟨.func,1,8,some [.func],true⟩)
 (.nd (some ⟨(.int .u64),1,8,some [.int .u64 0],true⟩)
 (.nd (some ⟨.other,1,0,none,true⟩)
 .lf .lf) .lf) (.nd (some ⟨.func,1,8,some [.func],true⟩)
 (.nd (some ⟨(.ptr 34),1,8,some [.ptr],true⟩)
 .lf .lf) .lf)) (.nd (some ⟨.func,1,8,some [.func],true⟩)
 (.nd (some ⟨.other,1,0,none,true⟩)
 (.nd (some ⟨(.struct [(0,12,false),(1,12,false),(2,142,false),(3,143,false),(4,5,false),(5,5,false),(6,110,false),(7,144,false),(8,145,false),(9,146,false),(10,147,false)]),11,48,some [.int .u64 0,.int .u64 0,.int .u32 0,.int .u8 0,.int .u8 0,.int .u8 0,.int .u8 0,.func,.ptr,.int .i32 0,.int .i32 0],false⟩)
 .lf .lf) .lf) (.nd (some ⟨(.struct [(0,17,false)]),1,8,some [.ptr],false⟩)
 .lf .lf))) (.nd (some ⟨(.struct [(0,9,false),(1,9,false),(2,3,false),(3,4,false),(4,28,false),(5,9,false),(6,3,false),(7,3,false),(8,9,false)]),9,120,some [.str,.str,.int .i64 0,.bool false,.slice,.str,.int .i64 0,.int .i64 0,.str],true⟩)
 (.nd (some ⟨.func,1,8,some [.func],true⟩)
 (.nd (some ⟨(.struct [(0,3,false),(1,3,false),(2,9,false),(3,9,false)]),4,48,some [.int .i64 0,.int .i64 0,.str,.str],true⟩)
 (.nd (some ⟨.func,1,8,some [.func],true⟩)
 .lf .lf) .lf) (.nd (some ⟨.func,1,8,some [.func],true⟩)
 .lf .lf)) (.nd (some ⟨.func,1,8,some [.func],true⟩)
 (.nd (some ⟨.func,1,8,some [.func],true⟩)
 (.nd (some ⟨.func,1,8,some [.func],true⟩)
 .lf .lf) .lf) (.nd (some ⟨.func,1,8,some [.func],true⟩)
 .lf .lf)))))) (.nd (some ⟨(.int .i64),1,8,some [.int .i64 0],true⟩)
 (.nd (some ⟨.bool,1,1,some [.bool false],true⟩)
 (.nd (some ⟨(.struct [(0,2,false),(1,3,false),(2,4,false),(3,6,false)]),4,24,some [.int .i64 0,.int .i64 0,.bool false,.int .u8 0],true⟩)
 (.nd (some ⟨(.ptr 140),1,8,some [.ptr],true⟩)
 (.nd (some ⟨(.struct [(0,3,false),(1,9,false),(2,3,false),(3,30,false)]),12,152,some [.int .i64 0,.str,.int .i64 0,.str,.str,.int .i64 0,.bool false,.slice,.str,.int .i64 0,.int .i64 0,.str],true⟩)
 (.nd (some ⟨.func,1,8,some [.func],true⟩)
 (.nd (some ⟨(.slice 34),1,24,some [.slice],true⟩)
 .lf .lf) .lf) (.nd (some ⟨.func,1,8,some [.func],true⟩)
 (.nd (some ⟨(.struct [(0,146,false),(1,158,false),(2,158,false),(3,142,false),(4,142,true)]),5,16,some [.int .i32 0,.int .u16 0,.int .u16 0,.int .u32 0,.int .u32 0],false⟩)
 .lf .lf) .lf)) (.nd (some ⟨.func,1,8,some [.func],true⟩)
 (.nd (some ⟨.func,1,8,some [.func],true⟩)
 (.nd (some ⟨.func,1,8,some [.func],true⟩)
 .lf .lf) .lf) (.nd (some ⟨.func,1,8,some [.func],true⟩)
 .lf .lf))) (.nd (some ⟨(.slice 30),1,24,some [.slice],true⟩)
 (.nd (some ⟨.func,1,8,some [.func],true⟩)
 (.nd (some ⟨(.ptr 74),1,8,some [.ptr],true⟩)
 (.nd (some ⟨(.struct [(0,17,false),(1,17,false),(2,17,false),(3,9,false)]),4,40,some [.ptr,.ptr,.ptr,.str],false⟩)
 .lf .lf) .lf) (.nd (some ⟨(.struct [(0,17,false),(1,102,false),(2,103,false)]),3,24,some [.ptr,.ptr,.int .u64 0],false⟩)
 .lf .lf)) (.nd (some ⟨(.slice 5),1,24,some [.slice],true⟩)
 (.nd (some ⟨.func,1,8,some [.func],true⟩)
 (.nd (some ⟨(.struct [(0,9,false),(1,110,false)]),2,24,some [.str,.int .u8 0],false⟩)
 .lf .lf) .lf) (.nd (some ⟨.func,1,8,some [.func],true⟩)
 .lf .lf)))) (.nd (some ⟨(.int .u64),1,8,some [.int .u64 0],true⟩)
 (.nd (some ⟨(.iface true),1,16,some [.iface],true⟩)
 (.nd (some ⟨.func,1,8,some [.func],true⟩)
 (.nd (some ⟨.func,1,8,some [.func],true⟩)
 (.nd (some ⟨.func,1,8,some [.func],true⟩)
 .lf .lf) .lf) (.nd (some ⟨(.slice 3),1,24,some [.slice],true⟩)
 (.nd (some ⟨(.struct [(0,146,false),(1,147,false),(2,162,false),(3,162,false)]),4,16,some [.int .i32 0,.int .i32 0,.int .i32 0,.int .i32 0],false⟩)
 .lf .lf) .lf)) (.nd (some ⟨.func,1,8,some [.func],true⟩)
 (.nd (some ⟨.func,1,8,some [.func],true⟩)
 (.nd (some ⟨(.struct [(0,12,false),(1,12,false),(2,142,false),(3,143,false),(4,5,false),(5,5,false),(6,110,false),(7,144,false),(8,145,false),(9,146,false),(10,147,false)]),11,48,some [.int .u64 0,.int .u64 0,.int .u32 0,.int .u8 0,.int .u8 0,.int .u8 0,.int .u8 0,.func,.ptr,.int .i32 0,.int .i32 0],false⟩)
 .lf .lf) .lf) (.nd (some ⟨.func,1,8,some [.func],true⟩)
 .lf .lf))) (.nd (some ⟨(.slice 78),1,24,some [.slice],true⟩)
 (.nd (some ⟨.func,1,8,some [.func],true⟩)
 (.nd (some ⟨.func,1,8,some [.func],true⟩)
 (.nd (some ⟨(.struct [(0,138,true)]),0,0,some [],false⟩)
 .lf .lf) .lf) (.nd (some ⟨(.iface false),1,16,some [.iface],false⟩)
 .lf .lf)) (.nd (some ⟨.func,1,8,some [.func],true⟩)
 (.nd (some ⟨.func,1,8,some [.func],true⟩)
 (.nd (some ⟨(.ptr 160),1,8,some [.ptr],true⟩)
 .lf .lf) .lf) (.nd (some ⟨.other,1,0,none,true⟩)
 .lf .lf))))) (.nd (some ⟨(.int .u8),1,1,some [.int .u8 0],true⟩)
 (.nd (some ⟨.string,1,16,some [.str],true⟩)
 (.nd (some ⟨(.struct [(0,17,false)]),1,8,some [.ptr],false⟩)
 (.nd (some ⟨(.iface false),1,16,some [.iface],false⟩)
 (.nd (some ⟨(.struct [(0,9,false),(1,3,false),(2,34,false)]),3,40,some [.str,.int .i64 0,.iface],false⟩)
 (.nd (some ⟨.other,1,0,none,true⟩)
 .lf .lf) .lf) (.nd (some ⟨.func,1,8,some [.func],true⟩)
 (.nd (some ⟨(.int .i32),1,4,some [.int .i32 0],true⟩)
 .lf .lf) .lf)) (.nd (some ⟨.other,1,0,none,true⟩)
 (.nd (some ⟨.func,1,8,some [.func],true⟩)
 (.nd (some ⟨(.int .i32),1,4,some [.int .i32 0],true⟩)
 .lf .lf) .lf) (.nd (some ⟨.other,1,0,none,true⟩)
 .lf .lf))) (.nd (some ⟨.func,1,8,some [.func],true⟩)
 (.nd (some ⟨.func,1,8,some [.func],true⟩)
 (.nd (some ⟨(.struct [(0,3,false),(1,3,false),(2,34,false)]),3,32,some [.int .i64 0,.int .i64 0,.iface],false⟩)
 (.nd (some ⟨(.arr 0 16),0,0,some [],true⟩)
 .lf .lf) .lf) (.nd (some ⟨.func,1,8,some [.func],true⟩)
 .lf .lf)) (.nd (some ⟨(.struct [(0,56,false),(1,34,false)]),2,40,some [.slice,.iface],false⟩)
 (.nd (some ⟨.func,1,8,some [.func],true⟩)
 (.nd (some ⟨(.struct [(0,9,false)]),1,16,some [.str],true⟩)
 .lf .lf) .lf) (.nd (some ⟨.func,1,8,some [.func],true⟩)
 .lf .lf)))) (.nd (some ⟨(.struct [(0,9,false),(1,12,false)]),2,24,some [.str,.int .u64 0],false⟩)
 (.nd (some ⟨(.slice 9),1,24,some [.slice],true⟩)
 (.nd (some ⟨.other,1,0,none,true⟩)
 (.nd (some ⟨.other,1,0,none,true⟩)
 (.nd (some ⟨.func,1,8,some [.func],true⟩)
 .lf .lf) .lf) (.nd (some ⟨.other,1,8,some [.ptr],true⟩)
 .lf .lf)) (.nd (some ⟨.func,1,8,some [.func],true⟩)
 (.nd (some ⟨.func,1,8,some [.func],true⟩)
 (.nd (some ⟨.func,1,8,some [.func],true⟩)
 .lf .lf) .lf) (.nd (some ⟨(.struct [(0,17,false)]),1,8,some [.ptr],false⟩)
 .lf .lf))) (.nd (some ⟨(.struct [(0,9,false),(1,9,false),(2,3,false),(3,4,false),(4,28,false),(5,9,false),(6,3,false),(7,3,false),(8,9,false)]),9,120,some [.str,.str,.int .i64 0,.bool false,.slice,.str,.int .i64 0,.int .i64 0,.str],true⟩)
 (.nd (some ⟨(.ptr 66),1,8,some [.ptr],true⟩)
 (.nd (some ⟨(.struct [(0,3,false),(1,3,false),(2,9,false),(3,9,false)]),4,48,some [.int .i64 0,.int .i64 0,.str,.str],true⟩)
 (.nd (some ⟨(.int .u32),1,4,some [.int .u32 0],true⟩)
 .lf .lf) .lf) (.nd (some ⟨(.int .u8),1,1,some [.int .u8 0],true⟩)
 .lf .lf)) (.nd (some ⟨.func,1,8,some [.func],true⟩)
 (.nd (some ⟨.func,1,8,some [.func],true⟩)
 (.nd (some ⟨(.int .u16),1,2,some [.int .u16 0],true⟩)
 .lf .lf) .lf) (.nd (some ⟨(.iface false),1,16,some [.iface],false⟩)
 .lf .lf)))))))
noncomputable def fn : Tr Func :=
 (.nd none
 (.nd none
 (.nd (some Tryd.f3)
 (.nd (some Tryd.f7)
 (.nd (some Tryd.f15)
 (.nd (some Tryd.f31)
 (.nd (some Tryd.f63)
 (.nd none
 .lf .lf) .lf) (.nd none
 .lf .lf)) (.nd (some Tryd.f47)
 (.nd none
 .lf .lf) (.nd none
 .lf .lf))) (.nd (some Tryd.f23)
 (.nd (some Tryd.f39)
 (.nd (some Tryd.f71)
 .lf .lf) (.nd (some Tryd.f103)
 .lf .lf)) (.nd (some Tryd.f55)
 (.nd none
 .lf .lf) (.nd none
 .lf .lf)))) (.nd (some Tryd.f11)
 (.nd (some Tryd.f19)
 (.nd (some Tryd.f35)
 (.nd (some Tryd.f67)
 .lf .lf) (.nd none
 .lf .lf)) (.nd (some Tryd.f51)
 (.nd (some Tryd.f83)
 .lf .lf) (.nd none
 .lf .lf))) (.nd (some Tryd.f27)
 (.nd (some Tryd.f43)
 (.nd none
 .lf .lf) (.nd none
 .lf .lf)) (.nd (some Tryd.f59)
 (.nd none
 .lf .lf) (.nd none
 .lf .lf))))) (.nd (some Tryd.f5)
 (.nd (some Tryd.f9)
 (.nd (some Tryd.f17)
 (.nd (some Tryd.f33)
 (.nd (some Tryd.f65)
 (.nd (some Tryd.f129)
 .lf .lf) .lf) (.nd none
 .lf .lf)) (.nd (some Tryd.f49)
 (.nd none
 .lf .lf) (.nd none
 .lf .lf))) (.nd (some Tryd.f25)
 (.nd (some Tryd.f41)
 (.nd none
 .lf .lf) (.nd none
 .lf .lf)) (.nd (some Tryd.f57)
 (.nd none
 .lf .lf) (.nd none
 .lf .lf)))) (.nd (some Tryd.f13)
 (.nd (some Tryd.f21)
 (.nd (some Tryd.f37)
 (.nd (some Tryd.f69)
 .lf .lf) (.nd none
 .lf .lf)) (.nd (some Tryd.f53)
 (.nd none
 .lf .lf) (.nd none
 .lf .lf))) (.nd (some Tryd.f29)
 (.nd (some Tryd.f45)
 (.nd (some Tryd.f77)
 .lf .lf) (.nd none
 .lf .lf)) (.nd (some Tryd.f61)
 (.nd none
 .lf .lf) (.nd none
 .lf .lf)))))) (.nd (some Tryd.f2)
 (.nd (some Tryd.f4)
 (.nd (some Tryd.f8)
 (.nd (some Tryd.f16)
 (.nd (some Tryd.f32)
 (.nd (some Tryd.f64)
 (.nd none
 .lf .lf) .lf) (.nd none
 .lf .lf)) (.nd (some Tryd.f48)
 (.nd none
 .lf .lf) (.nd none
 .lf .lf))) (.nd (some Tryd.f24)
 (.nd (some Tryd.f40)
 (.nd (some Tryd.f72)
 .lf .lf) (.nd none
 .lf .lf)) (.nd (some Tryd.f56)
 (.nd none
 .lf .lf) (.nd (some Tryd.f120)
 .lf .lf)))) (.nd (some Tryd.f12)
 (.nd (some Tryd.f20)
 (.nd (some Tryd.f36)
 (.nd (some Tryd.f68)
 .lf .lf) (.nd none
 .lf .lf)) (.nd (some Tryd.f52)
 (.nd (some Tryd.f84)
 .lf .lf) (.nd none
 .lf .lf))) (.nd (some Tryd.f28)
 (.nd (some Tryd.f44)
 (.nd (some Tryd.f76)
 .lf .lf) (.nd none
 .lf .lf)) (.nd (some Tryd.f60)
 (.nd none
 .lf .lf) (.nd none
 .lf .lf))))) (.nd (some Tryd.f6)
 (.nd (some Tryd.f10)
 (.nd (some Tryd.f18)
 (.nd (some Tryd.f34)
 (.nd (some Tryd.f66)
 .lf .lf) (.nd none
 .lf .lf)) (.nd (some Tryd.f50)
 (.nd (some Tryd.f82)
 .lf .lf) (.nd none
 .lf .lf))) (.nd (some Tryd.f26)
 (.nd (some Tryd.f42)
 (.nd none
 .lf .lf) (.nd none
 .lf .lf)) (.nd (some Tryd.f58)
 (.nd none
 .lf .lf) (.nd none
 .lf .lf)))) (.nd (some Tryd.f14)
 (.nd (some Tryd.f22)
 (.nd (some Tryd.f38)
 (.nd (some Tryd.f70)
 .lf .lf) (.nd none
 .lf .lf)) (.nd (some Tryd.f54)
 (.nd none
 .lf .lf) (.nd none
 .lf .lf))) (.nd (some Tryd.f30)
 (.nd (some Tryd.f46)
 (.nd (some Tryd.f78)
 .lf .lf) (.nd none
 .lf .lf)) (.nd (some Tryd.f62)
 (.nd none
 .lf .lf) (.nd none
 .lf .lf)))))))
def ng : Nat := 6
def dp : Nat → Bool := fun t => [78,22,28,100,128,74,32,30].any (Nat.beq t)
noncomputable def E00 (nb : Nat) : Env := { P := Tryd.prog,ty := ty,fn := fn,sp := fun _ => none,ng := ng,nb := nb,dp := fun t => Nat.beq t 74 }
noncomputable def E0 (nb : Nat) : Env := { P := Tryd.prog,ty := ty,fn := fn,sp := fun _ => none,ng := ng,nb := nb,dp := dp }
set_option maxRecDepth 100000
theorem ty_ok : TyOk (E00 0) := tyOk_of 8 (by kernel_rfl) (by kernel_rfl)
theorem fn_ok : ∀ f F,(E00 0).fn.get f = some F → FnOk (E00 0) f F := fnOk_of 8 (by kernel_rfl) (by kernel_rfl) (by kernel_rfl)
theorem env0_ok (nb : Nat) : EnvOk (E0 nb) := ⟨⟨ty_ok.ty⟩,fun f F h => ⟨(fn_ok f F h).at',(fn_ok f F h).name,(fn_ok f F h).code⟩,by kernel_rfl,fun f g args H r H' h => by cases h⟩
theorem env00_ok (nb : Nat) : EnvOk (E00 nb) := ⟨⟨ty_ok.ty⟩,fun f F h => ⟨(fn_ok f F h).at',(fn_ok f F h).name,(fn_ok f F h).code⟩,by kernel_rfl,fun f g args H r H' h => by cases h⟩
def ec : ErrT := ⟨999999,67,135,72,97,118,34,5,6⟩
theorem ec_ok : ErrOkA Tryd.prog ec where
 enAs args w := run_enter Tryd.func67 (by kernel_rfl) (show Tryd.f67.body = some (bodyOf Tryd.f67) from rfl) args w
 asHit e t old w h1 h2 h3 := (Err.as_hit e t old w h1 h2 h3).mono fun ev w' h => ⟨h.1,_,_,_,_,h.2⟩
def handle : Nat × Value := (5,.iface 118 (.agg ⟨[.complex .f64 6 34]⟩))
end Go.Proofs.YtkhcbbpfchgemaaDoor.Abs
