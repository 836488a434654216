/-
  DERIVED. Printed by a program of this session (Gen.lean): the abstract machine's environment of this seat's program.
-/
import Derived.Test.YtdiekikcnfjlnaaGreatDoorProg
import Derived.KernelRfl
import Derived.Test.YtdiekikcnfjlnaaGreatDoorAMd
import Derived.Test.YtdiekikcnfjlnaaGreatDoorAErrW
namespace Go.Proofs.YtdiekikcnfjlnaaGreatDoor.Abs
open Go AbsYtdiekikcnfjlnaaGreatDoor
def ty : Tr TI :=
 (.nd (some ⟨.other,1,0,none,true⟩)
 (.nd (some ⟨.func,1,8,some [.func],true⟩)
 (.nd (some ⟨(.int .i64),1,8,some [.int .i64 0],true⟩)
 (.nd (some ⟨(.struct [(0,2,false),(1,3,false),(2,4,false),(3,6,false)]),4,24,some [.int .i64 0,.int .i64 0,.bool false,.int .u8 0],true⟩)
 (.nd (some ⟨(.ptr 129),1,8,some [.ptr],true⟩)
 (.nd (some ⟨.func,1,8,some [.func],true⟩)
 (.nd (some ⟨(.struct [(0,9,false),(1,3,false),(2,36,false)]),3,40,some [.str,.int .i64 0,.iface],false⟩)
 (.nd (some ⟨(.ptr 147),1,8,some [.ptr],true⟩)
 .lf .lf) .lf) (.nd (some ⟨.func,1,8,some [.func],true⟩)
 .lf .lf)) (.nd (some ⟨.func,1,8,some [.func],true⟩)
 (.nd (some ⟨.func,1,8,some [.func],true⟩)
 (.nd (some ⟨.func,1,8,some [.func],true⟩)
 .lf .lf) .lf) (.nd (some ⟨(.iface false),1,16,some [.iface],false⟩)
 .lf .lf))) (.nd (some ⟨.func,1,8,some [.func],true⟩)
 (.nd (some ⟨(.ptr 63),1,8,some [.ptr],true⟩)
 (.nd (some ⟨.func,1,8,some [.func],true⟩)
 (.nd (some ⟨(.int .u8),1,1,some [.int .u8 0],true⟩)
 .lf .lf) .lf) (.nd (some ⟨.func,1,8,some [.func],true⟩)
 .lf .lf)) (.nd (some ⟨(.slice 5),1,24,some [.slice],true⟩)
 (.nd (some ⟨(.iface false),1,16,some [.iface],false⟩)
 (.nd (some ⟨(.struct [(0,138,false),(1,150,false),(2,150,false),(3,134,false),(4,134,true)]),5,16,some [.int .i32 0,.int .u16 0,.int .u16 0,.int .u32 0,.int .u32 0],false⟩)
 .lf .lf) .lf) (.nd (some ⟨(.int .u64),1,8,some [.int .u64 0],true⟩)
 .lf .lf)))) (.nd (some ⟨.string,1,16,some [.str],true⟩)
 (.nd (some ⟨(.struct [(0,17,false)]),1,8,some [.ptr],false⟩)
 (.nd (some ⟨(.iface false),1,16,some [.iface],false⟩)
 (.nd (some ⟨.other,1,0,none,true⟩)
 (.nd (some ⟨(.struct [(0,130,true)]),0,0,some [],false⟩)
 .lf .lf) .lf) (.nd (some ⟨.func,1,8,some [.func],true⟩)
 .lf .lf)) (.nd (some ⟨.func,1,8,some [.func],true⟩)
 (.nd (some ⟨.other,1,0,none,true⟩)
 (.nd (some ⟨(.struct [(0,9,false)]),1,16,some [.str],true⟩)
 .lf .lf) .lf) (.nd (some ⟨.func,1,8,some [.func],true⟩)
 .lf .lf))) (.nd (some ⟨.other,1,0,none,true⟩)
 (.nd (some ⟨(.int .i64),1,8,some [.int .i64 0],true⟩)
 (.nd (some ⟨(.struct [(0,3,false),(1,3,false),(2,36,false)]),3,32,some [.int .i64 0,.int .i64 0,.iface],false⟩)
 (.nd (some ⟨(.int .i32),1,4,some [.int .i32 0],true⟩)
 .lf .lf) .lf) (.nd (some ⟨(.ptr 145),1,8,some [.ptr],true⟩)
 .lf .lf)) (.nd (some ⟨.func,1,8,some [.func],true⟩)
 (.nd (some ⟨.other,1,8,some [.ptr],true⟩)
 (.nd (some ⟨(.struct [(0,138,false),(1,139,false),(2,154,false),(3,154,false)]),4,16,some [.int .i32 0,.int .i32 0,.int .i32 0,.int .i32 0],false⟩)
 .lf .lf) .lf) (.nd (some ⟨.func,1,8,some [.func],true⟩)
 .lf .lf))))) (.nd (some ⟨(.int .u8),1,1,some [.int .u8 0],true⟩)
 (.nd (some ⟨.string,1,16,some [.str],true⟩)
 (.nd (some ⟨(.ptr 141),1,8,some [.ptr],true⟩)
 (.nd (some ⟨.func,1,8,some [.func],true⟩)
 (.nd (some ⟨.func,1,8,some [.func],true⟩)
 (.nd (some ⟨(.struct [(0,17,false),(1,17,false),(2,17,false),(3,9,false)]),4,40,some [.ptr,.ptr,.ptr,.str],false⟩)
 .lf .lf) .lf) (.nd (some ⟨(.int .u8),1,1,some [.int .u8 0],true⟩)
 .lf .lf)) (.nd (some ⟨(.slice 3),1,24,some [.slice],true⟩)
 (.nd (some ⟨.func,1,8,some [.func],true⟩)
 (.nd (some ⟨(.struct [(0,9,false),(1,97,false)]),2,24,some [.str,.int .u8 0],false⟩)
 .lf .lf) .lf) (.nd (some ⟨.func,1,8,some [.func],true⟩)
 .lf .lf))) (.nd (some ⟨(.struct [(0,3,false),(1,3,false),(2,9,false),(3,9,false)]),4,48,some [.int .i64 0,.int .i64 0,.str,.str],true⟩)
 (.nd (some ⟨.other,1,0,none,true⟩)
 (.nd (some ⟨.func,1,8,some [.func],true⟩)
 (.nd (some ⟨(.ptr 5),1,8,some [.ptr],true⟩)
 .lf .lf) .lf) (.nd (some ⟨(.struct [(0,17,false)]),1,8,some [.ptr],false⟩)
 .lf .lf)) (.nd (some ⟨(.struct [(0,55,false),(1,36,false)]),2,40,some [.slice,.iface],false⟩)
 (.nd (some ⟨.func,1,8,some [.func],true⟩)
 (.nd (some ⟨(.slice 156),1,24,some [.slice],true⟩)
 .lf .lf) .lf) (.nd (some ⟨.func,1,8,some [.func],true⟩)
 .lf .lf)))) (.nd (some ⟨(.struct [(0,9,false),(1,12,false)]),2,24,some [.str,.int .u64 0],false⟩)
 (.nd (some ⟨(.int .i32),1,4,some [.int .i32 0],true⟩)
 (.nd (some ⟨.other,1,0,none,true⟩)
 (.nd (some ⟨.func,1,8,some [.func],true⟩)
 (.nd (some ⟨.func,1,8,some [.func],true⟩)
 .lf .lf) .lf) (.nd (some ⟨.func,1,8,some [.func],true⟩)
 .lf .lf)) (.nd (some ⟨.func,1,8,some [.func],true⟩)
 (.nd (some ⟨.func,1,8,some [.func],true⟩)
 (.nd (some ⟨.func,1,8,some [.func],true⟩)
 .lf .lf) .lf) (.nd (some ⟨.other,1,0,none,true⟩)
 .lf .lf))) (.nd (some ⟨.func,1,8,some [.func],true⟩)
 (.nd (some ⟨.func,1,8,some [.func],true⟩)
 (.nd (some ⟨.func,1,8,some [.func],true⟩)
 (.nd (some ⟨(.struct [(0,12,false),(1,12,false),(2,134,false),(3,135,false),(4,5,false),(5,5,false),(6,97,false),(7,136,false),(8,137,false),(9,138,false),(10,139,false)]),11,48,some [.int .u64 0,.int .u64 0,.int .u32 0,.int .u8 0,.int .u8 0,.int .u8 0,.int .u8 0,.func,.ptr,.int .i32 0,.int .i32 0],false⟩)
 .lf .lf) .lf) (.nd (some ⟨.other,1,0,none,true⟩)
 .lf .lf)) (.nd (some ⟨.func,1,8,some [.func],true⟩)
 (.nd (some ⟨(.struct [(0,17,false),(1,91,false),(2,92,false)]),3,24,some [.ptr,.ptr,.int .u64 0],false⟩)
 (.nd (some ⟨(.ptr 36),1,8,some [.ptr],true⟩)
 .lf .lf) .lf) (.nd (some ⟨.other,1,0,none,true⟩)
 .lf .lf)))))) (.nd (some ⟨(.int .i64),1,8,some [.int .i64 0],true⟩)
 (.nd (some ⟨.bool,1,1,some [.bool false],true⟩)
 (.nd (some ⟨(.struct [(0,2,false),(1,3,false),(2,4,false),(3,6,false)]),4,24,some [.int .i64 0,.int .i64 0,.bool false,.int .u8 0],true⟩)
 (.nd (some ⟨(.ptr 132),1,8,some [.ptr],true⟩)
 (.nd (some ⟨.func,1,8,some [.func],true⟩)
 (.nd (some ⟨.func,1,8,some [.func],true⟩)
 (.nd (some ⟨(.struct [(0,17,false),(1,17,false),(2,17,false),(3,9,false)]),4,40,some [.ptr,.ptr,.ptr,.str],false⟩)
 .lf .lf) .lf) (.nd (some ⟨.func,1,8,some [.func],true⟩)
 .lf .lf)) (.nd (some ⟨.func,1,8,some [.func],true⟩)
 (.nd (some ⟨.func,1,8,some [.func],true⟩)
 (.nd (some ⟨(.struct [(0,9,false),(1,97,false)]),2,24,some [.str,.int .u8 0],false⟩)
 .lf .lf) .lf) (.nd (some ⟨(.iface false),1,16,some [.iface],false⟩)
 .lf .lf))) (.nd (some ⟨.func,1,8,some [.func],true⟩)
 (.nd (some ⟨.func,1,8,some [.func],true⟩)
 (.nd (some ⟨(.ptr 76),1,8,some [.ptr],true⟩)
 (.nd (some ⟨.func,1,8,some [.func],true⟩)
 .lf .lf) .lf) (.nd (some ⟨.func,1,8,some [.func],true⟩)
 .lf .lf)) (.nd (some ⟨(.struct [(0,55,false),(1,36,false)]),2,40,some [.slice,.iface],false⟩)
 (.nd (some ⟨(.iface false),1,16,some [.iface],false⟩)
 (.nd (some ⟨(.struct [(0,138,false),(1,150,false),(2,150,false),(3,134,false),(4,134,true)]),5,16,some [.int .i32 0,.int .u16 0,.int .u16 0,.int .u32 0,.int .u32 0],false⟩)
 .lf .lf) .lf) (.nd (some ⟨.other,1,0,none,true⟩)
 .lf .lf)))) (.nd (some ⟨(.int .u64),1,8,some [.int .u64 0],true⟩)
 (.nd (some ⟨(.iface true),1,16,some [.iface],true⟩)
 (.nd (some ⟨(.iface false),1,16,some [.iface],false⟩)
 (.nd (some ⟨.func,1,8,some [.func],true⟩)
 (.nd (some ⟨(.struct [(0,130,true)]),0,0,some [],false⟩)
 .lf .lf) .lf) (.nd (some ⟨.func,1,8,some [.func],true⟩)
 .lf .lf)) (.nd (some ⟨.func,1,8,some [.func],true⟩)
 (.nd (some ⟨.func,1,8,some [.func],true⟩)
 (.nd (some ⟨(.ptr 152),1,8,some [.ptr],true⟩)
 .lf .lf) .lf) (.nd (some ⟨(.iface false),1,16,some [.iface],false⟩)
 .lf .lf))) (.nd (some ⟨.func,1,8,some [.func],true⟩)
 (.nd (some ⟨.func,1,8,some [.func],true⟩)
 (.nd (some ⟨(.struct [(0,3,false),(1,3,false),(2,36,false)]),3,32,some [.int .i64 0,.int .i64 0,.iface],false⟩)
 (.nd (some ⟨(.struct [(0,12,false),(1,12,false),(2,134,false),(3,135,false),(4,5,false),(5,5,false),(6,97,false),(7,136,false),(8,137,false),(9,138,false),(10,139,false)]),11,48,some [.int .u64 0,.int .u64 0,.int .u32 0,.int .u8 0,.int .u8 0,.int .u8 0,.int .u8 0,.func,.ptr,.int .i32 0,.int .i32 0],false⟩)
 .lf .lf) .lf) (.nd (some ⟨(.iface false),1,16,some [.iface],false⟩)
 .lf .lf)) (.nd (some ⟨.func,1,8,some [.func],true⟩)
 (.nd (some ⟨(.int .u64),1,8,some [.int .u64 0],true⟩)
 (.nd (some ⟨(.struct [(0,138,false),(1,139,false),(2,154,false),(3,154,false)]),4,16,some [.int .i32 0,.int .i32 0,.int .i32 0,.int .i32 0],false⟩)
 .lf .lf) .lf) (.nd (some ⟨.func,1,8,some [.func],true⟩)
 .lf .lf))))) (.nd (some ⟨(.int .u8),1,1,some [.int .u8 0],true⟩)
 (.nd (some ⟨.string,1,16,some [.str],true⟩)
 (.nd (some ⟨(.struct [(0,17,false)]),1,8,some [.ptr],false⟩)
 (.nd (some ⟨.func,1,8,some [.func],true⟩)
 (.nd (some ⟨.func,1,8,some [.func],true⟩)
 (.nd (some ⟨(.arr 0 16),0,0,some [],true⟩)
 .lf .lf) .lf) (.nd (some ⟨.func,1,8,some [.func],true⟩)
 .lf .lf)) (.nd (some ⟨.func,1,8,some [.func],true⟩)
 (.nd (some ⟨.func,1,8,some [.func],true⟩)
 (.nd (some ⟨(.struct [(0,9,false)]),1,16,some [.str],true⟩)
 .lf .lf) .lf) (.nd (some ⟨.func,1,8,some [.func],true⟩)
 .lf .lf))) (.nd (some ⟨(.struct [(0,3,false),(1,3,false),(2,9,false),(3,9,false)]),4,48,some [.int .i64 0,.int .i64 0,.str,.str],true⟩)
 (.nd (some ⟨.func,1,8,some [.func],true⟩)
 (.nd (some ⟨(.ptr 72),1,8,some [.ptr],true⟩)
 (.nd (some ⟨(.int .i32),1,4,some [.int .i32 0],true⟩)
 .lf .lf) .lf) (.nd (some ⟨(.struct [(0,17,false)]),1,8,some [.ptr],false⟩)
 .lf .lf)) (.nd (some ⟨.func,1,8,some [.func],true⟩)
 (.nd (some ⟨.func,1,8,some [.func],true⟩)
 (.nd (some ⟨(.int .i32),1,4,some [.int .i32 0],true⟩)
 .lf .lf) .lf) (.nd (some ⟨.other,1,0,none,true⟩)
 .lf .lf)))) (.nd (some ⟨(.struct [(0,9,false),(1,12,false)]),2,24,some [.str,.int .u64 0],false⟩)
 (.nd (some ⟨(.slice 26),1,24,some [.slice],true⟩)
 (.nd (some ⟨.func,1,8,some [.func],true⟩)
 (.nd (some ⟨(.slice 36),1,24,some [.slice],true⟩)
 (.nd (some ⟨(.int .u32),1,4,some [.int .u32 0],true⟩)
 .lf .lf) .lf) (.nd (some ⟨.func,1,8,some [.func],true⟩)
 .lf .lf)) (.nd (some ⟨(.ptr 57),1,8,some [.ptr],true⟩)
 (.nd (some ⟨.func,1,8,some [.func],true⟩)
 (.nd (some ⟨(.int .u16),1,2,some [.int .u16 0],true⟩)
 .lf .lf) .lf) (.nd (some ⟨.func,1,8,some [.func],true⟩)
 .lf .lf))) (.nd (some ⟨.func,1,8,some [.func],true⟩)
 (.nd (some ⟨.func,1,8,some [.func],true⟩)
 (.nd (some ⟨.func,1,8,some [.func],true⟩)
 (.nd (some ⟨.func,1,8,some [.func],true⟩)
 .lf .lf) .lf) (.nd (some ⟨.func,1,8,some [.func],true⟩)
 .lf .lf)) (.nd (some ⟨(.struct [(0,9,false),(1,3,false),(2,36,false)]),3,40,some [.str,.int .i64 0,.iface],false⟩)
 (.nd (some ⟨(.struct [(0,17,false),(1,91,false),(2,92,false)]),3,24,some [.ptr,.ptr,.int .u64 0],false⟩)
 .lf .lf) (.nd (some ⟨.func,1,8,some [.func],true⟩)
 .lf .lf)))))))
noncomputable def fn : Tr Func :=
 (.nd none
 (.nd none
 (.nd (some Tryz.f3)
 (.nd (some Tryz.f7)
 (.nd (some Tryz.f15)
 (.nd (some Tryz.f31)
 (.nd none
 (.nd none
 .lf .lf) .lf) (.nd none
 .lf .lf)) (.nd (some Tryz.f47)
 (.nd none
 .lf .lf) (.nd none
 .lf .lf))) (.nd (some Tryz.f23)
 (.nd (some Tryz.f39)
 (.nd (some Tryz.f71)
 .lf .lf) (.nd none
 .lf .lf)) (.nd (some Tryz.f55)
 (.nd none
 .lf .lf) (.nd none
 .lf .lf)))) (.nd (some Tryz.f11)
 (.nd (some Tryz.f19)
 (.nd (some Tryz.f35)
 (.nd (some Tryz.f67)
 (.nd none
 .lf .lf) .lf) (.nd none
 .lf .lf)) (.nd (some Tryz.f51)
 (.nd (some Tryz.f83)
 .lf .lf) (.nd none
 .lf .lf))) (.nd (some Tryz.f27)
 (.nd (some Tryz.f43)
 (.nd (some Tryz.f75)
 .lf .lf) (.nd none
 .lf .lf)) (.nd (some Tryz.f59)
 (.nd none
 .lf .lf) (.nd none
 .lf .lf))))) (.nd (some Tryz.f5)
 (.nd (some Tryz.f9)
 (.nd (some Tryz.f17)
 (.nd (some Tryz.f33)
 (.nd none
 (.nd none
 .lf .lf) .lf) (.nd none
 .lf .lf)) (.nd (some Tryz.f49)
 (.nd (some Tryz.f81)
 .lf .lf) (.nd none
 .lf .lf))) (.nd (some Tryz.f25)
 (.nd (some Tryz.f41)
 (.nd (some Tryz.f73)
 .lf .lf) (.nd (some Tryz.f105)
 .lf .lf)) (.nd (some Tryz.f57)
 (.nd none
 .lf .lf) (.nd none
 .lf .lf)))) (.nd (some Tryz.f13)
 (.nd (some Tryz.f21)
 (.nd (some Tryz.f37)
 (.nd (some Tryz.f69)
 (.nd (some Tryz.f133)
 .lf .lf) .lf) (.nd none
 .lf .lf)) (.nd (some Tryz.f53)
 (.nd (some Tryz.f85)
 .lf .lf) (.nd none
 .lf .lf))) (.nd (some Tryz.f29)
 (.nd (some Tryz.f45)
 (.nd (some Tryz.f77)
 .lf .lf) (.nd none
 .lf .lf)) (.nd none
 (.nd none
 .lf .lf) (.nd none
 .lf .lf)))))) (.nd (some Tryz.f2)
 (.nd (some Tryz.f4)
 (.nd (some Tryz.f8)
 (.nd (some Tryz.f16)
 (.nd (some Tryz.f32)
 (.nd none
 (.nd none
 .lf .lf) .lf) (.nd none
 .lf .lf)) (.nd (some Tryz.f48)
 (.nd none
 .lf .lf) (.nd none
 .lf .lf))) (.nd (some Tryz.f24)
 (.nd (some Tryz.f40)
 (.nd (some Tryz.f72)
 .lf .lf) (.nd none
 .lf .lf)) (.nd (some Tryz.f56)
 (.nd none
 .lf .lf) (.nd none
 .lf .lf)))) (.nd (some Tryz.f12)
 (.nd (some Tryz.f20)
 (.nd (some Tryz.f36)
 (.nd (some Tryz.f68)
 (.nd none
 .lf .lf) .lf) (.nd none
 .lf .lf)) (.nd (some Tryz.f52)
 (.nd (some Tryz.f84)
 .lf .lf) (.nd none
 .lf .lf))) (.nd (some Tryz.f28)
 (.nd (some Tryz.f44)
 (.nd (some Tryz.f76)
 .lf .lf) (.nd none
 .lf .lf)) (.nd (some Tryz.f60)
 (.nd none
 .lf .lf) (.nd none
 .lf .lf))))) (.nd (some Tryz.f6)
 (.nd (some Tryz.f10)
 (.nd (some Tryz.f18)
 (.nd (some Tryz.f34)
 (.nd (some Tryz.f66)
 (.nd none
 .lf .lf) .lf) (.nd none
 .lf .lf)) (.nd (some Tryz.f50)
 (.nd (some Tryz.f82)
 .lf .lf) (.nd none
 .lf .lf))) (.nd (some Tryz.f26)
 (.nd (some Tryz.f42)
 (.nd (some Tryz.f74)
 .lf .lf) (.nd none
 .lf .lf)) (.nd (some Tryz.f58)
 (.nd none
 .lf .lf) (.nd (some Tryz.f122)
 .lf .lf)))) (.nd (some Tryz.f14)
 (.nd (some Tryz.f22)
 (.nd (some Tryz.f38)
 (.nd (some Tryz.f70)
 .lf .lf) (.nd none
 .lf .lf)) (.nd (some Tryz.f54)
 (.nd (some Tryz.f86)
 .lf .lf) (.nd none
 .lf .lf))) (.nd (some Tryz.f30)
 (.nd (some Tryz.f46)
 (.nd (some Tryz.f78)
 .lf .lf) (.nd none
 .lf .lf)) (.nd (some Tryz.f62)
 (.nd none
 .lf .lf) (.nd none
 .lf .lf)))))))
def ng : Nat := 8
def dp : Nat → Bool := fun t => [26,22,49,70,76].any (Nat.beq t)
noncomputable def E00 (nb : Nat) : Env := { P := Tryz.prog,ty := ty,fn := fn,sp := fun _ => none,ng := ng,nb := nb,dp := fun t => Nat.beq t 76 }
noncomputable def E0 (nb : Nat) : Env := { P := Tryz.prog,ty := ty,fn := fn,sp := fun _ => none,ng := ng,nb := nb,dp := dp }
set_option maxRecDepth 100000
theorem ty_ok : TyOk (E00 0) := tyOk_of 8 (by kernel_rfl) (by kernel_rfl)
theorem fn_ok : ∀ f F,(E00 0).fn.get f = some F → FnOk (E00 0) f F := fnOk_of 8 (by kernel_rfl) (by kernel_rfl) (by kernel_rfl)
theorem env0_ok (nb : Nat) : EnvOk (E0 nb) := ⟨⟨ty_ok.ty⟩,fun f F h => ⟨(fn_ok f F h).at',(fn_ok f F h).name,(fn_ok f F h).code⟩,by kernel_rfl,fun f g args H r H' h => by cases h⟩
theorem env00_ok (nb : Nat) : EnvOk (E00 nb) := ⟨⟨ty_ok.ty⟩,fun f F h => ⟨(fn_ok f F h).at',(fn_ok f F h).name,(fn_ok f F h).code⟩,by kernel_rfl,fun f g args H r H' h => by cases h⟩
def ec : ErrT := ⟨41,42,127,72,74,106,36,7,8⟩
theorem ec_ok : ErrOk Tryz.prog ec where
 enIs args w := run_enter Tryz.func41 (by kernel_rfl) (show Tryz.f41.body = some (bodyOf Tryz.f41) from rfl) args w
 enAs args w := run_enter Tryz.func42 (by kernel_rfl) (show Tryz.f42.body = some (bodyOf Tryz.f42) from rfl) args w
 nilIs b w := Err.is_nil b w
 bareSame b w := Err.is_same b w
 bareOther b a ca cb ta tb w h1 h2 h3 := Err.is_other a b ca cb ta tb w h1 h2 h3
 wrapSame p ps b w hl h := by
  rcases ps with _ | ⟨q,_ | ⟨r,_ | ⟨s,_ | ⟨u,l⟩⟩⟩⟩
  ·exact Err.is_wrap_same1 p.1 p.2 b w h
  ·exact Err.is_wrap_same2 p.1 p.2 q.1 q.2 b w h.1 h.2
  ·exact Err.is_wrap_same3 p.1 p.2 q.1 q.2 r.1 r.2 b w h.1 h.2.1 h.2.2
  ·exact Err.is_wrap_same4 p.1 p.2 q.1 q.2 r.1 r.2 s.1 s.2 b w h.1 h.2.1 h.2.2.1 h.2.2.2
  ·simp only [List.length_cons] at hl; omega
 wrapOther p ps b a ca cb ta tb w hl h h1 h2 h3 := by
  rcases ps with _ | ⟨q,_ | ⟨r,_ | ⟨s,_ | ⟨u,l⟩⟩⟩⟩
  ·exact Err.is_wrap_other1 p.1 p.2 b a ca cb ta tb w h h1 h2 h3
  ·exact Err.is_wrap_other2 p.1 p.2 q.1 q.2 b a ca cb ta tb w h.1 h.2 h1 h2 h3
  ·exact Err.is_wrap_other3 p.1 p.2 q.1 q.2 r.1 r.2 b a ca cb ta tb w h.1 h.2.1 h.2.2 h1 h2 h3
  ·exact Err.is_wrap_other4 p.1 p.2 q.1 q.2 r.1 r.2 s.1 s.2 b a ca cb ta tb w h.1 h.2.1 h.2.2.1 h.2.2.2 h1 h2 h3
  ·simp only [List.length_cons] at hl; omega
 asHit e t old w h1 h2 h3 := (Err.as_hit e t old w h1 h2 h3).mono fun ev w' h => ⟨h.1,_,_,_,_,h.2⟩
def handle : Nat × Value := (7,.iface 106 (.agg ⟨[.complex .f64 8 36]⟩))
end Go.Proofs.YtdiekikcnfjlnaaGreatDoor.Abs
