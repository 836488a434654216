/-
  DERIVED. Printed by a program of this session (Gen.lean): the abstract machine's environment of this seat's program.
-/
import Derived.Test.YtlmcjfnignbdoaaDoorProg
import Derived.KernelRfl
import Derived.Test.YtlmcjfnignbdoaaDoorAMd
import Derived.Test.YtlmcjfnignbdoaaDoorAErrW
namespace Go.Proofs.YtlmcjfnignbdoaaDoor.Abs
open Go AbsYtlmcjfnignbdoaaDoor
def ty : Tr TI :=
 (.nd (some ⟨.other, 1, 0, none, true⟩)
 (.nd (some ⟨.func, 1, 8, some [.func], true⟩)
 (.nd (some ⟨(.int .i64), 1, 8, some [.int .i64 0], true⟩)
 (.nd (some ⟨(.struct [(0, 2, false), (1, 3, false), (2, 4, false), (3, 6, false)]), 4, 24, some [.int .i64 0, .int .i64 0, .bool false, .int .u8 0], true⟩)
 (.nd (some ⟨(.ptr 129), 1, 8, some [.ptr], true⟩)
 (.nd (some ⟨(.struct [(0, 3, false), (1, 22, false)]), 2, 32, some [.int .i64 0, .slice], true⟩)
 (.nd (some ⟨(.struct [(0, 3, false), (1, 61, false)]), 2, 16, some [.int .i64 0, .map], true⟩)
 (.nd (some ⟨.func, 1, 8, some [.func], true⟩)
 .lf .lf) .lf) (.nd (some ⟨.func, 1, 8, some [.func], true⟩)
 .lf .lf)) (.nd (some ⟨.func, 1, 8, some [.func], true⟩)
 (.nd (some ⟨.func, 1, 8, some [.func], true⟩)
 (.nd (some ⟨.func, 1, 8, some [.func], true⟩)
 .lf .lf) .lf) (.nd (some ⟨(.iface false), 1, 16, some [.iface], false⟩)
 .lf .lf))) (.nd (some ⟨.func, 1, 8, some [.func], true⟩)
 (.nd (some ⟨(.iface false), 1, 16, some [.iface], false⟩)
 (.nd (some ⟨(.slice 5), 1, 24, some [.slice], true⟩)
 (.nd (some ⟨(.int .u32), 1, 4, some [.int .u32 0], true⟩)
 .lf .lf) .lf) (.nd (some ⟨(.int .u8), 1, 1, some [.int .u8 0], true⟩)
 .lf .lf)) (.nd (some ⟨.func, 1, 8, some [.func], true⟩)
 (.nd (some ⟨(.struct [(0, 3, false), (1, 3, false), (2, 39, false)]), 3, 32, some [.int .i64 0, .int .i64 0, .iface], false⟩)
 (.nd (some ⟨(.int .u16), 1, 2, some [.int .u16 0], true⟩)
 .lf .lf) .lf) (.nd (some ⟨.func, 1, 8, some [.func], true⟩)
 .lf .lf)))) (.nd (some ⟨.string, 1, 16, some [.str], true⟩)
 (.nd (some ⟨(.struct [(0, 17, false)]), 1, 8, some [.ptr], false⟩)
 (.nd (some ⟨.func, 1, 8, some [.func], true⟩)
 (.nd (some ⟨.other, 1, 0, none, true⟩)
 (.nd (some ⟨(.struct [(0, 130, true)]), 0, 0, some [], false⟩)
 .lf .lf) .lf) (.nd (some ⟨(.struct [(0, 17, false), (1, 97, false), (2, 98, false)]), 3, 24, some [.ptr, .ptr, .int .u64 0], false⟩)
 .lf .lf)) (.nd (some ⟨.func, 1, 8, some [.func], true⟩)
 (.nd (some ⟨.func, 1, 8, some [.func], true⟩)
 (.nd (some ⟨(.struct [(0, 9, false)]), 1, 16, some [.str], true⟩)
 .lf .lf) .lf) (.nd (some ⟨.func, 1, 8, some [.func], true⟩)
 .lf .lf))) (.nd (some ⟨(.ptr 29), 1, 8, some [.ptr], true⟩)
 (.nd (some ⟨.other, 1, 0, none, true⟩)
 (.nd (some ⟨.func, 1, 8, some [.func], true⟩)
 (.nd (some ⟨(.int .i32), 1, 4, some [.int .i32 0], true⟩)
 .lf .lf) .lf) (.nd (some ⟨.func, 1, 8, some [.func], true⟩)
 .lf .lf)) (.nd (some ⟨(.struct [(0, 3, false), (1, 58, false)]), 2, 32, some [.int .i64 0, .slice], true⟩)
 (.nd (some ⟨.other, 1, 0, none, true⟩)
 (.nd (some ⟨(.int .i32), 1, 4, some [.int .i32 0], true⟩)
 .lf .lf) .lf) (.nd (some ⟨.other, 1, 0, none, true⟩)
 .lf .lf))))) (.nd (some ⟨(.int .u8), 1, 1, some [.int .u8 0], true⟩)
 (.nd (some ⟨.string, 1, 16, some [.str], true⟩)
 (.nd (some ⟨(.ptr 142), 1, 8, some [.ptr], true⟩)
 (.nd (some ⟨.other, 1, 0, none, true⟩)
 (.nd (some ⟨(.struct [(0, 48, false), (1, 3, false), (2, 3, false)]), 3, 24, some [.int .i64 0, .int .i64 0, .int .i64 0], true⟩)
 (.nd (some ⟨(.struct [(0, 17, false), (1, 17, false), (2, 17, false), (3, 9, false)]), 4, 40, some [.ptr, .ptr, .ptr, .str], false⟩)
 .lf .lf) .lf) (.nd (some ⟨.other, 1, 8, some [.ptr], true⟩)
 .lf .lf)) (.nd (some ⟨.func, 1, 8, some [.func], true⟩)
 (.nd (some ⟨.func, 1, 8, some [.func], true⟩)
 (.nd (some ⟨(.struct [(0, 9, false), (1, 103, false)]), 2, 24, some [.str, .int .u8 0], false⟩)
 .lf .lf) .lf) (.nd (some ⟨.func, 1, 8, some [.func], true⟩)
 .lf .lf))) (.nd (some ⟨(.ptr 31), 1, 8, some [.ptr], true⟩)
 (.nd (some ⟨.func, 1, 8, some [.func], true⟩)
 (.nd (some ⟨.func, 1, 8, some [.func], true⟩)
 (.nd (some ⟨.func, 1, 8, some [.func], true⟩)
 .lf .lf) .lf) (.nd (some ⟨.func, 1, 8, some [.func], true⟩)
 .lf .lf)) (.nd (some ⟨(.ptr 60), 1, 8, some [.ptr], true⟩)
 (.nd (some ⟨(.struct [(0, 3, false), (1, 9, false)]), 2, 24, some [.int .i64 0, .str], true⟩)
 (.nd (some ⟨(.struct [(0, 139, false), (1, 151, false), (2, 151, false), (3, 135, false), (4, 135, true)]), 5, 16, some [.int .i32 0, .int .u16 0, .int .u16 0, .int .u32 0, .int .u32 0], false⟩)
 .lf .lf) .lf) (.nd (some ⟨.other, 1, 0, none, true⟩)
 .lf .lf)))) (.nd (some ⟨(.struct [(0, 9, false), (1, 12, false)]), 2, 24, some [.str, .int .u64 0], false⟩)
 (.nd (some ⟨(.int .i32), 1, 4, some [.int .i32 0], true⟩)
 (.nd (some ⟨.func, 1, 8, some [.func], true⟩)
 (.nd (some ⟨.func, 1, 8, some [.func], true⟩)
 (.nd (some ⟨.func, 1, 8, some [.func], true⟩)
 .lf .lf) .lf) (.nd (some ⟨.func, 1, 8, some [.func], true⟩)
 .lf .lf)) (.nd (some ⟨.other, 1, 0, none, true⟩)
 (.nd (some ⟨.func, 1, 8, some [.func], true⟩)
 (.nd (some ⟨(.ptr 153), 1, 8, some [.ptr], true⟩)
 .lf .lf) .lf) (.nd (some ⟨.func, 1, 8, some [.func], true⟩)
 .lf .lf))) (.nd (some ⟨(.struct [(0, 3, false), (1, 22, false)]), 2, 32, some [.int .i64 0, .slice], true⟩)
 (.nd (some ⟨.func, 1, 8, some [.func], true⟩)
 (.nd (some ⟨.func, 1, 8, some [.func], true⟩)
 (.nd (some ⟨(.struct [(0, 12, false), (1, 12, false), (2, 135, false), (3, 136, false), (4, 5, false), (5, 5, false), (6, 103, false), (7, 137, false), (8, 138, false), (9, 139, false), (10, 140, false)]), 11, 48, some [.int .u64 0, .int .u64 0, .int .u32 0, .int .u8 0, .int .u8 0, .int .u8 0, .int .u8 0, .func, .ptr, .int .i32 0, .int .i32 0], false⟩)
 .lf .lf) .lf) (.nd (some ⟨(.struct [(0, 17, false)]), 1, 8, some [.ptr], false⟩)
 .lf .lf)) (.nd (some ⟨(.map 3 9), 1, 8, some [.map], true⟩)
 (.nd (some ⟨(.iface false), 1, 16, some [.iface], false⟩)
 (.nd (some ⟨(.struct [(0, 139, false), (1, 140, false), (2, 155, false), (3, 155, false)]), 4, 16, some [.int .i32 0, .int .i32 0, .int .i32 0, .int .i32 0], false⟩)
 .lf .lf) .lf) (.nd (some ⟨(.int .u64), 1, 8, some [.int .u64 0], true⟩)
 .lf .lf)))))) (.nd (some ⟨(.int .i64), 1, 8, some [.int .i64 0], true⟩)
 (.nd (some ⟨.bool, 1, 1, some [.bool false], true⟩)
 (.nd (some ⟨(.struct [(0, 2, false), (1, 3, false), (2, 4, false), (3, 6, false)]), 4, 24, some [.int .i64 0, .int .i64 0, .bool false, .int .u8 0], true⟩)
 (.nd (some ⟨(.ptr 132), 1, 8, some [.ptr], true⟩)
 (.nd (some ⟨(.slice 25), 1, 24, some [.slice], true⟩)
 (.nd (some ⟨(.slice 36), 1, 24, some [.slice], true⟩)
 (.nd (some ⟨(.struct [(0, 17, false), (1, 17, false), (2, 17, false), (3, 9, false)]), 4, 40, some [.ptr, .ptr, .ptr, .str], false⟩)
 .lf .lf) .lf) (.nd (some ⟨.func, 1, 8, some [.func], true⟩)
 .lf .lf)) (.nd (some ⟨(.int .i64), 1, 8, some [.int .i64 0], true⟩)
 (.nd (some ⟨.func, 1, 8, some [.func], true⟩)
 (.nd (some ⟨.func, 1, 8, some [.func], true⟩)
 .lf .lf) .lf) (.nd (some ⟨.other, 1, 0, none, true⟩)
 .lf .lf))) (.nd (some ⟨.func, 1, 8, some [.func], true⟩)
 (.nd (some ⟨.other, 1, 0, none, true⟩)
 (.nd (some ⟨.other, 1, 0, none, true⟩)
 (.nd (some ⟨(.int .u8), 1, 1, some [.int .u8 0], true⟩)
 .lf .lf) .lf) (.nd (some ⟨.func, 1, 8, some [.func], true⟩)
 .lf .lf)) (.nd (some ⟨(.slice 3), 1, 24, some [.slice], true⟩)
 (.nd (some ⟨(.struct [(0, 3, false), (1, 3, false), (2, 39, false)]), 3, 32, some [.int .i64 0, .int .i64 0, .iface], false⟩)
 (.nd (some ⟨(.struct [(0, 139, false), (1, 151, false), (2, 151, false), (3, 135, false), (4, 135, true)]), 5, 16, some [.int .i32 0, .int .u16 0, .int .u16 0, .int .u32 0, .int .u32 0], false⟩)
 .lf .lf) .lf) (.nd (some ⟨(.iface false), 1, 16, some [.iface], false⟩)
 .lf .lf)))) (.nd (some ⟨(.int .u64), 1, 8, some [.int .u64 0], true⟩)
 (.nd (some ⟨(.iface true), 1, 16, some [.iface], true⟩)
 (.nd (some ⟨(.ptr 63), 1, 8, some [.ptr], true⟩)
 (.nd (some ⟨.func, 1, 8, some [.func], true⟩)
 (.nd (some ⟨(.struct [(0, 130, true)]), 0, 0, some [], false⟩)
 .lf .lf) .lf) (.nd (some ⟨(.struct [(0, 17, false), (1, 97, false), (2, 98, false)]), 3, 24, some [.ptr, .ptr, .int .u64 0], false⟩)
 .lf .lf)) (.nd (some ⟨.func, 1, 8, some [.func], true⟩)
 (.nd (some ⟨(.ptr 88), 1, 8, some [.ptr], true⟩)
 (.nd (some ⟨(.struct [(0, 9, false)]), 1, 16, some [.str], true⟩)
 .lf .lf) .lf) (.nd (some ⟨(.iface false), 1, 16, some [.iface], false⟩)
 .lf .lf))) (.nd (some ⟨(.struct [(0, 3, false), (1, 22, false)]), 2, 32, some [.int .i64 0, .slice], true⟩)
 (.nd (some ⟨.func, 1, 8, some [.func], true⟩)
 (.nd (some ⟨.func, 1, 8, some [.func], true⟩)
 (.nd (some ⟨(.int .i32), 1, 4, some [.int .i32 0], true⟩)
 .lf .lf) .lf) (.nd (some ⟨(.struct [(0, 17, false)]), 1, 8, some [.ptr], false⟩)
 .lf .lf)) (.nd (some ⟨(.struct [(0, 3, false), (1, 58, false)]), 2, 32, some [.int .i64 0, .slice], true⟩)
 (.nd (some ⟨.func, 1, 8, some [.func], true⟩)
 (.nd (some ⟨(.struct [(0, 139, false), (1, 140, false), (2, 155, false), (3, 155, false)]), 4, 16, some [.int .i32 0, .int .i32 0, .int .i32 0, .int .i32 0], false⟩)
 .lf .lf) .lf) (.nd (some ⟨.func, 1, 8, some [.func], true⟩)
 .lf .lf))))) (.nd (some ⟨(.int .u8), 1, 1, some [.int .u8 0], true⟩)
 (.nd (some ⟨.string, 1, 16, some [.str], true⟩)
 (.nd (some ⟨(.struct [(0, 17, false)]), 1, 8, some [.ptr], false⟩)
 (.nd (some ⟨.func, 1, 8, some [.func], true⟩)
 (.nd (some ⟨(.struct [(0, 48, false), (1, 3, false), (2, 3, false)]), 3, 24, some [.int .i64 0, .int .i64 0, .int .i64 0], true⟩)
 (.nd (some ⟨(.arr 0 16), 0, 0, some [], true⟩)
 .lf .lf) .lf) (.nd (some ⟨(.int .u64), 1, 8, some [.int .u64 0], true⟩)
 .lf .lf)) (.nd (some ⟨.func, 1, 8, some [.func], true⟩)
 (.nd (some ⟨(.slice 39), 1, 24, some [.slice], true⟩)
 (.nd (some ⟨(.struct [(0, 9, false), (1, 103, false)]), 2, 24, some [.str, .int .u8 0], false⟩)
 .lf .lf) .lf) (.nd (some ⟨(.iface false), 1, 16, some [.iface], false⟩)
 .lf .lf))) (.nd (some ⟨.func, 1, 8, some [.func], true⟩)
 (.nd (some ⟨.func, 1, 8, some [.func], true⟩)
 (.nd (some ⟨.func, 1, 8, some [.func], true⟩)
 (.nd (some ⟨(.ptr 5), 1, 8, some [.ptr], true⟩)
 .lf .lf) .lf) (.nd (some ⟨.func, 1, 8, some [.func], true⟩)
 .lf .lf)) (.nd (some ⟨(.slice 90), 1, 24, some [.slice], true⟩)
 (.nd (some ⟨(.struct [(0, 3, false), (1, 9, false)]), 2, 24, some [.int .i64 0, .str], true⟩)
 (.nd (some ⟨(.slice 157), 1, 24, some [.slice], true⟩)
 .lf .lf) .lf) (.nd (some ⟨.func, 1, 8, some [.func], true⟩)
 .lf .lf)))) (.nd (some ⟨(.struct [(0, 9, false), (1, 12, false)]), 2, 24, some [.str, .int .u64 0], false⟩)
 (.nd (some ⟨(.slice 9), 1, 24, some [.slice], true⟩)
 (.nd (some ⟨(.iface false), 1, 16, some [.iface], false⟩)
 (.nd (some ⟨.func, 1, 8, some [.func], true⟩)
 (.nd (some ⟨.func, 1, 8, some [.func], true⟩)
 .lf .lf) .lf) (.nd (some ⟨.func, 1, 8, some [.func], true⟩)
 .lf .lf)) (.nd (some ⟨.func, 1, 8, some [.func], true⟩)
 (.nd (some ⟨(.ptr 84), 1, 8, some [.ptr], true⟩)
 (.nd (some ⟨.func, 1, 8, some [.func], true⟩)
 .lf .lf) .lf) (.nd (some ⟨.func, 1, 8, some [.func], true⟩)
 .lf .lf))) (.nd (some ⟨(.struct [(0, 3, false), (1, 22, false)]), 2, 32, some [.int .i64 0, .slice], true⟩)
 (.nd (some ⟨.other, 1, 0, none, true⟩)
 (.nd (some ⟨.other, 1, 0, none, true⟩)
 (.nd (some ⟨(.struct [(0, 12, false), (1, 12, false), (2, 135, false), (3, 136, false), (4, 5, false), (5, 5, false), (6, 103, false), (7, 137, false), (8, 138, false), (9, 139, false), (10, 140, false)]), 11, 48, some [.int .u64 0, .int .u64 0, .int .u32 0, .int .u8 0, .int .u8 0, .int .u8 0, .int .u8 0, .func, .ptr, .int .i32 0, .int .i32 0], false⟩)
 .lf .lf) .lf) (.nd (some ⟨(.ptr 146), 1, 8, some [.ptr], true⟩)
 .lf .lf)) (.nd (some ⟨(.struct [(0, 3, false), (1, 61, false)]), 2, 16, some [.int .i64 0, .map], true⟩)
 (.nd (some ⟨(.iface false), 1, 16, some [.iface], false⟩)
 (.nd (some ⟨(.ptr 39), 1, 8, some [.ptr], true⟩)
 .lf .lf) .lf) (.nd (some ⟨(.ptr 148), 1, 8, some [.ptr], true⟩)
 .lf .lf)))))))
noncomputable def fn : Tr Func :=
 (.nd none
 (.nd none
 (.nd (some Tryd.f3)
 (.nd (some Tryd.f7)
 (.nd (some Tryd.f15)
 (.nd (some Tryd.f31)
 (.nd none
 .lf .lf) (.nd none
 .lf .lf)) (.nd none
 (.nd none
 .lf .lf) .lf)) (.nd (some Tryd.f23)
 (.nd (some Tryd.f39)
 (.nd none
 .lf .lf) .lf) (.nd (some Tryd.f55)
 (.nd none
 .lf .lf) .lf))) (.nd (some Tryd.f11)
 (.nd (some Tryd.f19)
 (.nd (some Tryd.f35)
 (.nd none
 .lf .lf) (.nd none
 .lf .lf)) (.nd (some Tryd.f51)
 (.nd none
 .lf .lf) .lf)) (.nd (some Tryd.f27)
 (.nd (some Tryd.f43)
 (.nd none
 .lf .lf) .lf) (.nd none
 (.nd (some Tryd.f91)
 .lf .lf) .lf)))) (.nd (some Tryd.f5)
 (.nd (some Tryd.f9)
 (.nd (some Tryd.f17)
 (.nd (some Tryd.f33)
 (.nd none
 .lf .lf) (.nd none
 .lf .lf)) (.nd none
 (.nd none
 .lf .lf) .lf)) (.nd (some Tryd.f25)
 (.nd (some Tryd.f41)
 (.nd none
 .lf .lf) .lf) (.nd none
 (.nd none
 .lf .lf) .lf))) (.nd (some Tryd.f13)
 (.nd (some Tryd.f21)
 (.nd (some Tryd.f37)
 (.nd none
 .lf .lf) (.nd none
 .lf .lf)) (.nd none
 (.nd none
 .lf .lf) .lf)) (.nd (some Tryd.f29)
 (.nd none
 (.nd none
 .lf .lf) .lf) (.nd none
 (.nd none
 .lf .lf) .lf))))) (.nd (some Tryd.f2)
 (.nd (some Tryd.f4)
 (.nd (some Tryd.f8)
 (.nd (some Tryd.f16)
 (.nd (some Tryd.f32)
 (.nd none
 .lf .lf) (.nd none
 .lf .lf)) (.nd none
 (.nd none
 .lf .lf) .lf)) (.nd (some Tryd.f24)
 (.nd (some Tryd.f40)
 (.nd none
 .lf .lf) .lf) (.nd none
 (.nd none
 .lf .lf) .lf))) (.nd (some Tryd.f12)
 (.nd (some Tryd.f20)
 (.nd (some Tryd.f36)
 (.nd none
 .lf .lf) (.nd none
 .lf .lf)) (.nd (some Tryd.f52)
 (.nd none
 .lf .lf) .lf)) (.nd (some Tryd.f28)
 (.nd (some Tryd.f44)
 (.nd none
 .lf .lf) .lf) (.nd none
 (.nd none
 .lf .lf) .lf)))) (.nd (some Tryd.f6)
 (.nd (some Tryd.f10)
 (.nd (some Tryd.f18)
 (.nd (some Tryd.f34)
 (.nd none
 .lf .lf) (.nd none
 .lf .lf)) (.nd (some Tryd.f50)
 (.nd none
 .lf .lf) .lf)) (.nd (some Tryd.f26)
 (.nd (some Tryd.f42)
 (.nd (some Tryd.f74)
 .lf .lf) .lf) (.nd none
 (.nd none
 .lf .lf) .lf))) (.nd (some Tryd.f14)
 (.nd (some Tryd.f22)
 (.nd (some Tryd.f38)
 (.nd none
 .lf .lf) (.nd (some Tryd.f102)
 .lf .lf)) (.nd none
 (.nd none
 .lf .lf) .lf)) (.nd (some Tryd.f30)
 (.nd (some Tryd.f46)
 (.nd none
 .lf .lf) .lf) (.nd none
 (.nd none
 .lf .lf) .lf))))))
def nty : Nat := 159
def nfn : Nat := 103
def ng : Nat := 8
noncomputable def E0 (nb : Nat) : Env := { P := Tryd.prog, ty := ty, fn := fn, sp := fun _ => none, ng := ng, nb := nb }
set_option maxRecDepth 100000
theorem ty_ok : TyOk (E0 0) := tyOk_of 8 (by kernel_rfl) (by kernel_rfl)
theorem fn_ok : ∀ f F, (E0 0).fn.get f = some F → FnOk (E0 0) f F := fnOk_of 7 (by kernel_rfl) (by kernel_rfl) (by kernel_rfl)
theorem env0_ok (nb : Nat) : EnvOk (E0 nb) := ⟨⟨ty_ok.ty⟩, fun f F h => ⟨(fn_ok f F h).at', (fn_ok f F h).name, (fn_ok f F h).code⟩, by kernel_rfl, fun f g args H r H' h => by cases h⟩
/-- the numbers of errors -/
def ec : ErrT := ⟨41, 42, 126, 84, 86, 109, 39, 7, 8⟩
theorem ec_ok : ErrOk Tryd.prog ec where
  enIs args w := run_enter Tryd.func41 (by kernel_rfl) (show Tryd.f41.body = some (bodyOf Tryd.f41) from rfl) args w
  enAs args w := run_enter Tryd.func42 (by kernel_rfl) (show Tryd.f42.body = some (bodyOf Tryd.f42) from rfl) args w
  bareSame b w := Err.is_same b w
  bareOther b a ca cb ta tb w h1 h2 h3 := Err.is_other a b ca cb ta tb w h1 h2 h3
  wrapSame pb po b w h := Err.is_wrap_same pb po b w h
  wrapOther pb po b a ca cb ta tb w h h1 h2 h3 := Err.is_wrap_other pb po b a ca cb ta tb w h h1 h2 h3
  asHit e t old w h1 h2 h3 := (Err.as_hit e t old w h1 h2 h3).mono fun ev w' h => ⟨h.1, _, _, _, _, h.2⟩
/-- the handle of the type of errors -/
def handle : Nat × Value := (7, .iface 109 (.agg ⟨[.complex .f64 8 39]⟩))
end Go.Proofs.YtlmcjfnignbdoaaDoor.Abs
