/-
  A part of a law's proof.
-/
import Derived.Test.YtkhcbbpfchgemaaAEnvA
import Derived.Test.YtkhcbbpfchgemaaAMf
namespace Go.Proofs.Ytkhcbbpfchgemaa.AbsN
open Go AbsYtkhcbbpfchgemaa Abs
set_option maxRecDepth 100000
set_option maxHeartbeats 4000000
set_option linter.unusedVariables false
noncomputable def E : Env := EN
theorem env_ok : EnvOk E := EN_ok
def dp : Nat → Bool := dpN
abbrev B : AHeap := .empty
theorem hB : ∀ b, B.get b ≠ .dead → wrt B b = false := fun b h => absurd rfl h
theorem ty0 : E.ty.get 0 = some ⟨.other, 1, 0, none, true⟩ := rfl
theorem ty1 : E.ty.get 1 = some ⟨.func, 1, 8, some [.func], true⟩ := rfl
theorem ty2 : E.ty.get 2 = some ⟨(.int .i64), 1, 8, some [.int .i64 0], true⟩ := rfl
theorem ty3 : E.ty.get 3 = some ⟨(.int .i64), 1, 8, some [.int .i64 0], true⟩ := rfl
theorem ty4 : E.ty.get 4 = some ⟨.bool, 1, 1, some [.bool false], true⟩ := rfl
theorem ty5 : E.ty.get 5 = some ⟨(.int .u8), 1, 1, some [.int .u8 0], true⟩ := rfl
theorem ty6 : E.ty.get 6 = some ⟨(.int .u8), 1, 1, some [.int .u8 0], true⟩ := rfl
theorem ty7 : E.ty.get 7 = some ⟨(.struct [(0, 2, false), (1, 3, false), (2, 4, false), (3, 6, false)]), 4, 24, some [.int .i64 0, .int .i64 0, .bool false, .int .u8 0], true⟩ := rfl
theorem ty8 : E.ty.get 8 = some ⟨(.struct [(0, 2, false), (1, 3, false), (2, 4, false), (3, 6, false)]), 4, 24, some [.int .i64 0, .int .i64 0, .bool false, .int .u8 0], true⟩ := rfl
theorem ty9 : E.ty.get 9 = some ⟨.string, 1, 16, some [.str], true⟩ := rfl
theorem ty10 : E.ty.get 10 = some ⟨.string, 1, 16, some [.str], true⟩ := rfl
theorem ty11 : E.ty.get 11 = some ⟨.string, 1, 16, some [.str], true⟩ := rfl
theorem ty12 : E.ty.get 12 = some ⟨(.int .u64), 1, 8, some [.int .u64 0], true⟩ := rfl
theorem ty13 : E.ty.get 13 = some ⟨(.struct [(0, 9, false), (1, 12, false)]), 2, 24, some [.str, .int .u64 0], false⟩ := rfl
theorem ty14 : E.ty.get 14 = some ⟨(.struct [(0, 9, false), (1, 12, false)]), 2, 24, some [.str, .int .u64 0], false⟩ := rfl
theorem ty15 : E.ty.get 15 = some ⟨(.ptr 120), 1, 8, some [.ptr], true⟩ := rfl
theorem ty16 : E.ty.get 16 = some ⟨(.ptr 123), 1, 8, some [.ptr], true⟩ := rfl
theorem ty17 : E.ty.get 17 = some ⟨(.ptr 132), 1, 8, some [.ptr], true⟩ := rfl
theorem ty18 : E.ty.get 18 = some ⟨(.struct [(0, 17, false)]), 1, 8, some [.ptr], false⟩ := rfl
theorem ty19 : E.ty.get 19 = some ⟨(.struct [(0, 17, false)]), 1, 8, some [.ptr], false⟩ := rfl
theorem ty20 : E.ty.get 20 = some ⟨(.iface true), 1, 16, some [.iface], true⟩ := rfl
theorem ty21 : E.ty.get 21 = some ⟨(.int .i32), 1, 4, some [.int .i32 0], true⟩ := rfl
theorem ty22 : E.ty.get 22 = some ⟨(.slice 37), 1, 24, some [.slice], true⟩ := rfl
theorem ty23 : E.ty.get 23 = some ⟨.func, 1, 8, some [.func], true⟩ := rfl
theorem ty24 : E.ty.get 24 = some ⟨(.struct [(0, 3, false), (1, 3, false), (2, 3, false), (3, 3, false), (4, 3, false), (5, 3, false), (6, 3, false), (7, 3, false), (8, 3, false), (9, 3, false), (10, 3, false), (11, 3, false), (12, 3, false)]), 13, 104, some [.int .i64 0, .int .i64 0, .int .i64 0, .int .i64 0, .int .i64 0, .int .i64 0, .int .i64 0, .int .i64 0, .int .i64 0, .int .i64 0, .int .i64 0, .int .i64 0, .int .i64 0], true⟩ := rfl
theorem ty25 : E.ty.get 25 = some ⟨(.struct [(0, 3, false), (1, 3, false), (2, 3, false), (3, 3, false), (4, 3, false), (5, 3, false), (6, 3, false), (7, 3, false), (8, 3, false), (9, 3, false), (10, 3, false), (11, 3, false), (12, 3, false)]), 13, 104, some [.int .i64 0, .int .i64 0, .int .i64 0, .int .i64 0, .int .i64 0, .int .i64 0, .int .i64 0, .int .i64 0, .int .i64 0, .int .i64 0, .int .i64 0, .int .i64 0, .int .i64 0], true⟩ := rfl
theorem ty26 : E.ty.get 26 = some ⟨.func, 1, 8, some [.func], true⟩ := rfl
theorem ty27 : E.ty.get 27 = some ⟨(.ptr 73), 1, 8, some [.ptr], true⟩ := rfl
theorem ty28 : E.ty.get 28 = some ⟨.func, 1, 8, some [.func], true⟩ := rfl
theorem ty29 : E.ty.get 29 = some ⟨.func, 1, 8, some [.func], true⟩ := rfl
theorem ty30 : E.ty.get 30 = some ⟨(.struct [(0, 3, false), (1, 3, false), (2, 3, false), (3, 3, false), (4, 3, false), (5, 4, false)]), 6, 48, some [.int .i64 0, .int .i64 0, .int .i64 0, .int .i64 0, .int .i64 0, .bool false], true⟩ := rfl
theorem ty31 : E.ty.get 31 = some ⟨(.struct [(0, 3, false), (1, 3, false), (2, 3, false), (3, 3, false), (4, 3, false), (5, 4, false)]), 6, 48, some [.int .i64 0, .int .i64 0, .int .i64 0, .int .i64 0, .int .i64 0, .bool false], true⟩ := rfl
theorem ty32 : E.ty.get 32 = some ⟨(.slice 93), 1, 24, some [.slice], true⟩ := rfl
theorem ty33 : E.ty.get 33 = some ⟨(.struct [(0, 4, false), (1, 9, false), (2, 9, false), (3, 3, false), (4, 4, false), (5, 32, false)]), 6, 80, some [.bool false, .str, .str, .int .i64 0, .bool false, .slice], true⟩ := rfl
theorem ty34 : E.ty.get 34 = some ⟨(.struct [(0, 4, false), (1, 9, false), (2, 9, false), (3, 3, false), (4, 4, false), (5, 32, false)]), 6, 80, some [.bool false, .str, .str, .int .i64 0, .bool false, .slice], true⟩ := rfl
theorem ty35 : E.ty.get 35 = some ⟨.func, 1, 8, some [.func], true⟩ := rfl
theorem ty36 : E.ty.get 36 = some ⟨(.struct [(0, 9, false), (1, 9, false), (2, 3, false), (3, 4, false), (4, 32, false), (5, 9, false), (6, 3, false), (7, 3, false), (8, 9, false)]), 9, 120, some [.str, .str, .int .i64 0, .bool false, .slice, .str, .int .i64 0, .int .i64 0, .str], true⟩ := rfl
theorem ty37 : E.ty.get 37 = some ⟨(.struct [(0, 9, false), (1, 9, false), (2, 3, false), (3, 4, false), (4, 32, false), (5, 9, false), (6, 3, false), (7, 3, false), (8, 9, false)]), 9, 120, some [.str, .str, .int .i64 0, .bool false, .slice, .str, .int .i64 0, .int .i64 0, .str], true⟩ := rfl
theorem ty38 : E.ty.get 38 = some ⟨(.slice 57), 1, 24, some [.slice], true⟩ := rfl
theorem ty39 : E.ty.get 39 = some ⟨(.slice 9), 1, 24, some [.slice], true⟩ := rfl
theorem ty40 : E.ty.get 40 = some ⟨(.slice 3), 1, 24, some [.slice], true⟩ := rfl
theorem ty41 : E.ty.get 41 = some ⟨(.struct [(0, 3, false), (1, 3, false), (2, 3, false), (3, 32, false), (4, 4, false), (5, 3, false), (6, 9, false), (7, 34, false), (13, 4, false), (14, 9, false), (15, 4, false), (16, 9, false), (17, 4, false), (18, 9, false), (19, 9, false), (20, 3, false), (21, 4, false), (22, 4, false), (23, 38, false), (24, 39, false), (25, 40, false)]), 26, 336, some [.int .i64 0, .int .i64 0, .int .i64 0, .slice, .bool false, .int .i64 0, .str, .bool false, .str, .str, .int .i64 0, .bool false, .slice, .bool false, .str, .bool false, .str, .bool false, .str, .str, .int .i64 0, .bool false, .bool false, .slice, .slice, .slice], true⟩ := rfl
theorem ty42 : E.ty.get 42 = some ⟨(.struct [(0, 3, false), (1, 3, false), (2, 3, false), (3, 32, false), (4, 4, false), (5, 3, false), (6, 9, false), (7, 34, false), (13, 4, false), (14, 9, false), (15, 4, false), (16, 9, false), (17, 4, false), (18, 9, false), (19, 9, false), (20, 3, false), (21, 4, false), (22, 4, false), (23, 38, false), (24, 39, false), (25, 40, false)]), 26, 336, some [.int .i64 0, .int .i64 0, .int .i64 0, .slice, .bool false, .int .i64 0, .str, .bool false, .str, .str, .int .i64 0, .bool false, .slice, .bool false, .str, .bool false, .str, .bool false, .str, .str, .int .i64 0, .bool false, .bool false, .slice, .slice, .slice], true⟩ := rfl
theorem ty43 : E.ty.get 43 = some ⟨.other, 1, 0, none, true⟩ := rfl
theorem ty44 : E.ty.get 44 = some ⟨.func, 1, 8, some [.func], true⟩ := rfl
theorem ty45 : E.ty.get 45 = some ⟨(.slice 50), 1, 24, some [.slice], true⟩ := rfl
theorem ty46 : E.ty.get 46 = some ⟨.func, 1, 8, some [.func], true⟩ := rfl
theorem ty47 : E.ty.get 47 = some ⟨.other, 1, 0, none, true⟩ := rfl
theorem ty48 : E.ty.get 48 = some ⟨.func, 1, 8, some [.func], true⟩ := rfl
theorem ty49 : E.ty.get 49 = some ⟨(.struct [(0, 3, false), (1, 3, false), (2, 37, false)]), 11, 136, some [.int .i64 0, .int .i64 0, .str, .str, .int .i64 0, .bool false, .slice, .str, .int .i64 0, .int .i64 0, .str], true⟩ := rfl
theorem ty50 : E.ty.get 50 = some ⟨(.struct [(0, 3, false), (1, 3, false), (2, 37, false)]), 11, 136, some [.int .i64 0, .int .i64 0, .str, .str, .int .i64 0, .bool false, .slice, .str, .int .i64 0, .int .i64 0, .str], true⟩ := rfl
theorem ty51 : E.ty.get 51 = some ⟨.func, 1, 8, some [.func], true⟩ := rfl
theorem ty52 : E.ty.get 52 = some ⟨.func, 1, 8, some [.func], true⟩ := rfl
theorem ty53 : E.ty.get 53 = some ⟨(.slice 59), 1, 24, some [.slice], true⟩ := rfl
theorem ty54 : E.ty.get 54 = some ⟨.func, 1, 8, some [.func], true⟩ := rfl
theorem ty55 : E.ty.get 55 = some ⟨.func, 1, 8, some [.func], true⟩ := rfl
theorem ty56 : E.ty.get 56 = some ⟨(.struct [(0, 9, false), (1, 3, false), (2, 4, false), (3, 4, false), (4, 3, false)]), 5, 40, some [.str, .int .i64 0, .bool false, .bool false, .int .i64 0], true⟩ := rfl
theorem ty57 : E.ty.get 57 = some ⟨(.struct [(0, 9, false), (1, 3, false), (2, 4, false), (3, 4, false), (4, 3, false)]), 5, 40, some [.str, .int .i64 0, .bool false, .bool false, .int .i64 0], true⟩ := rfl
theorem ty58 : E.ty.get 58 = some ⟨(.struct [(0, 3, false), (1, 31, false), (7, 57, false), (12, 37, false), (21, 42, false), (47, 3, false), (48, 3, false)]), 49, 568, some [.int .i64 0, .int .i64 0, .int .i64 0, .int .i64 0, .int .i64 0, .int .i64 0, .bool false, .str, .int .i64 0, .bool false, .bool false, .int .i64 0, .str, .str, .int .i64 0, .bool false, .slice, .str, .int .i64 0, .int .i64 0, .str, .int .i64 0, .int .i64 0, .int .i64 0, .slice, .bool false, .int .i64 0, .str, .bool false, .str, .str, .int .i64 0, .bool false, .slice, .bool false, .str, .bool false, .str, .bool false, .str, .str, .int .i64 0, .bool false, .bool false, .slice, .slice, .slice, .int .i64 0, .int .i64 0], true⟩ := rfl
theorem ty59 : E.ty.get 59 = some ⟨(.struct [(0, 3, false), (1, 31, false), (7, 57, false), (12, 37, false), (21, 42, false), (47, 3, false), (48, 3, false)]), 49, 568, some [.int .i64 0, .int .i64 0, .int .i64 0, .int .i64 0, .int .i64 0, .int .i64 0, .bool false, .str, .int .i64 0, .bool false, .bool false, .int .i64 0, .str, .str, .int .i64 0, .bool false, .slice, .str, .int .i64 0, .int .i64 0, .str, .int .i64 0, .int .i64 0, .int .i64 0, .slice, .bool false, .int .i64 0, .str, .bool false, .str, .str, .int .i64 0, .bool false, .slice, .bool false, .str, .bool false, .str, .bool false, .str, .str, .int .i64 0, .bool false, .bool false, .slice, .slice, .slice, .int .i64 0, .int .i64 0], true⟩ := rfl
theorem ty60 : E.ty.get 60 = some ⟨.func, 1, 8, some [.func], true⟩ := rfl
theorem ty61 : E.ty.get 61 = some ⟨.func, 1, 8, some [.func], true⟩ := rfl
theorem ty62 : E.ty.get 62 = some ⟨.func, 1, 8, some [.func], true⟩ := rfl
theorem ty63 : E.ty.get 63 = some ⟨.func, 1, 8, some [.func], true⟩ := rfl
theorem ty64 : E.ty.get 64 = some ⟨(.ptr 84), 1, 8, some [.ptr], true⟩ := rfl
theorem ty65 : E.ty.get 65 = some ⟨.func, 1, 8, some [.func], true⟩ := rfl
theorem ty66 : E.ty.get 66 = some ⟨(.map 9 134), 1, 8, some [.map], true⟩ := rfl
theorem ty67 : E.ty.get 67 = some ⟨(.ptr 88), 1, 8, some [.ptr], true⟩ := rfl
theorem ty68 : E.ty.get 68 = some ⟨.func, 1, 8, some [.func], true⟩ := rfl
theorem ty69 : E.ty.get 69 = some ⟨(.ptr 90), 1, 8, some [.ptr], true⟩ := rfl
theorem ty70 : E.ty.get 70 = some ⟨.func, 1, 8, some [.func], true⟩ := rfl
theorem ty71 : E.ty.get 71 = some ⟨(.slice 42), 1, 24, some [.slice], true⟩ := rfl
theorem ty72 : E.ty.get 72 = some ⟨(.struct [(0, 64, false), (1, 9, false), (2, 4, false), (3, 31, false), (9, 34, false), (15, 3, false), (16, 66, false), (17, 67, false), (18, 69, false), (19, 71, false)]), 20, 216, some [.ptr, .str, .bool false, .int .i64 0, .int .i64 0, .int .i64 0, .int .i64 0, .int .i64 0, .bool false, .bool false, .str, .str, .int .i64 0, .bool false, .slice, .int .i64 0, .map, .ptr, .ptr, .slice], true⟩ := rfl
theorem ty73 : E.ty.get 73 = some ⟨(.struct [(0, 64, false), (1, 9, false), (2, 4, false), (3, 31, false), (9, 34, false), (15, 3, false), (16, 66, false), (17, 67, false), (18, 69, false), (19, 71, false)]), 20, 216, some [.ptr, .str, .bool false, .int .i64 0, .int .i64 0, .int .i64 0, .int .i64 0, .int .i64 0, .bool false, .bool false, .str, .str, .int .i64 0, .bool false, .slice, .int .i64 0, .map, .ptr, .ptr, .slice], true⟩ := rfl
theorem ty74 : E.ty.get 74 = some ⟨.func, 1, 8, some [.func], true⟩ := rfl
theorem ty75 : E.ty.get 75 = some ⟨.func, 1, 8, some [.func], true⟩ := rfl
theorem ty76 : E.ty.get 76 = some ⟨.func, 1, 8, some [.func], true⟩ := rfl
theorem ty77 : E.ty.get 77 = some ⟨.func, 1, 8, some [.func], true⟩ := rfl
theorem ty78 : E.ty.get 78 = some ⟨.other, 1, 0, none, true⟩ := rfl
theorem ty79 : E.ty.get 79 = some ⟨.func, 1, 8, some [.func], true⟩ := rfl
theorem ty80 : E.ty.get 80 = some ⟨.func, 1, 8, some [.func], true⟩ := rfl
theorem ty81 : E.ty.get 81 = some ⟨.func, 1, 8, some [.func], true⟩ := rfl
theorem ty82 : E.ty.get 82 = some ⟨(.map 3 3), 1, 8, some [.map], true⟩ := rfl
theorem ty83 : E.ty.get 83 = some ⟨(.struct [(0, 3, false), (1, 82, false)]), 2, 16, some [.int .i64 0, .map], true⟩ := rfl
theorem ty84 : E.ty.get 84 = some ⟨(.struct [(0, 3, false), (1, 82, false)]), 2, 16, some [.int .i64 0, .map], true⟩ := rfl
theorem ty85 : E.ty.get 85 = some ⟨(.ptr 107), 1, 8, some [.ptr], true⟩ := rfl
theorem ty86 : E.ty.get 86 = some ⟨.func, 1, 8, some [.func], true⟩ := rfl
theorem ty87 : E.ty.get 87 = some ⟨(.struct [(0, 85, false), (1, 45, false)]), 2, 32, some [.ptr, .slice], true⟩ := rfl
theorem ty88 : E.ty.get 88 = some ⟨(.struct [(0, 85, false), (1, 45, false)]), 2, 32, some [.ptr, .slice], true⟩ := rfl
theorem ty89 : E.ty.get 89 = some ⟨(.struct [(0, 3, false), (1, 22, false)]), 2, 32, some [.int .i64 0, .slice], true⟩ := rfl
theorem ty90 : E.ty.get 90 = some ⟨(.struct [(0, 3, false), (1, 22, false)]), 2, 32, some [.int .i64 0, .slice], true⟩ := rfl
theorem ty91 : E.ty.get 91 = some ⟨.func, 1, 8, some [.func], true⟩ := rfl
theorem ty92 : E.ty.get 92 = some ⟨(.struct [(0, 3, false), (1, 3, false), (2, 9, false), (3, 9, false)]), 4, 48, some [.int .i64 0, .int .i64 0, .str, .str], true⟩ := rfl
theorem ty93 : E.ty.get 93 = some ⟨(.struct [(0, 3, false), (1, 3, false), (2, 9, false), (3, 9, false)]), 4, 48, some [.int .i64 0, .int .i64 0, .str, .str], true⟩ := rfl
theorem ty94 : E.ty.get 94 = some ⟨.func, 1, 8, some [.func], true⟩ := rfl
theorem ty95 : E.ty.get 95 = some ⟨.func, 1, 8, some [.func], true⟩ := rfl
theorem ty96 : E.ty.get 96 = some ⟨.func, 1, 8, some [.func], true⟩ := rfl
theorem ty97 : E.ty.get 97 = some ⟨.func, 1, 8, some [.func], true⟩ := rfl
theorem ty98 : E.ty.get 98 = some ⟨.func, 1, 8, some [.func], true⟩ := rfl
theorem ty99 : E.ty.get 99 = some ⟨.func, 1, 8, some [.func], true⟩ := rfl
theorem ty100 : E.ty.get 100 = some ⟨.func, 1, 8, some [.func], true⟩ := rfl
theorem ty101 : E.ty.get 101 = some ⟨.other, 1, 0, none, true⟩ := rfl
theorem ty102 : E.ty.get 102 = some ⟨.func, 1, 8, some [.func], true⟩ := rfl
theorem ty103 : E.ty.get 103 = some ⟨.func, 1, 8, some [.func], true⟩ := rfl
theorem ty104 : E.ty.get 104 = some ⟨.func, 1, 8, some [.func], true⟩ := rfl
theorem ty105 : E.ty.get 105 = some ⟨(.map 3 4), 1, 8, some [.map], true⟩ := rfl
theorem ty106 : E.ty.get 106 = some ⟨(.struct [(0, 3, false), (1, 3, false), (2, 105, false)]), 3, 24, some [.int .i64 0, .int .i64 0, .map], true⟩ := rfl
theorem ty107 : E.ty.get 107 = some ⟨(.struct [(0, 3, false), (1, 3, false), (2, 105, false)]), 3, 24, some [.int .i64 0, .int .i64 0, .map], true⟩ := rfl
theorem ty108 : E.ty.get 108 = some ⟨.func, 1, 8, some [.func], true⟩ := rfl
theorem ty109 : E.ty.get 109 = some ⟨.func, 1, 8, some [.func], true⟩ := rfl
theorem ty110 : E.ty.get 110 = some ⟨.func, 1, 8, some [.func], true⟩ := rfl
theorem ty111 : E.ty.get 111 = some ⟨.func, 1, 8, some [.func], true⟩ := rfl
theorem ty112 : E.ty.get 112 = some ⟨.func, 1, 8, some [.func], true⟩ := rfl
theorem ty113 : E.ty.get 113 = some ⟨.func, 1, 8, some [.func], true⟩ := rfl
theorem ty114 : E.ty.get 114 = some ⟨.func, 1, 8, some [.func], true⟩ := rfl
theorem ty115 : E.ty.get 115 = some ⟨.func, 1, 8, some [.func], true⟩ := rfl
theorem ty116 : E.ty.get 116 = some ⟨.func, 1, 8, some [.func], true⟩ := rfl
theorem ty117 : E.ty.get 117 = some ⟨.func, 1, 8, some [.func], true⟩ := rfl
theorem ty118 : E.ty.get 118 = some ⟨.func, 1, 8, some [.func], true⟩ := rfl
theorem ty119 : E.ty.get 119 = some ⟨(.struct [(0, 17, false), (1, 17, false), (2, 17, false), (3, 9, false)]), 4, 40, some [.ptr, .ptr, .ptr, .str], false⟩ := rfl
theorem ty120 : E.ty.get 120 = some ⟨(.struct [(0, 17, false), (1, 17, false), (2, 17, false), (3, 9, false)]), 4, 40, some [.ptr, .ptr, .ptr, .str], false⟩ := rfl
theorem ty121 : E.ty.get 121 = some ⟨(.arr 0 16), 0, 0, some [], true⟩ := rfl
theorem ty122 : E.ty.get 122 = some ⟨(.struct [(0, 121, true)]), 0, 0, some [], false⟩ := rfl
theorem ty123 : E.ty.get 123 = some ⟨(.struct [(0, 121, true)]), 0, 0, some [], false⟩ := rfl
theorem ty124 : E.ty.get 124 = some ⟨(.int .u32), 1, 4, some [.int .u32 0], true⟩ := rfl
theorem ty125 : E.ty.get 125 = some ⟨(.int .u8), 1, 1, some [.int .u8 0], true⟩ := rfl
theorem ty126 : E.ty.get 126 = some ⟨(.int .u8), 1, 1, some [.int .u8 0], true⟩ := rfl
theorem ty127 : E.ty.get 127 = some ⟨.func, 1, 8, some [.func], true⟩ := rfl
theorem ty128 : E.ty.get 128 = some ⟨(.ptr 5), 1, 8, some [.ptr], true⟩ := rfl
theorem ty129 : E.ty.get 129 = some ⟨(.int .i32), 1, 4, some [.int .i32 0], true⟩ := rfl
theorem ty130 : E.ty.get 130 = some ⟨(.int .i32), 1, 4, some [.int .i32 0], true⟩ := rfl
theorem ty131 : E.ty.get 131 = some ⟨(.struct [(0, 12, false), (1, 12, false), (2, 124, false), (3, 125, false), (4, 5, false), (5, 5, false), (6, 126, false), (7, 127, false), (8, 128, false), (9, 129, false), (10, 130, false)]), 11, 48, some [.int .u64 0, .int .u64 0, .int .u32 0, .int .u8 0, .int .u8 0, .int .u8 0, .int .u8 0, .func, .ptr, .int .i32 0, .int .i32 0], false⟩ := rfl
theorem ty132 : E.ty.get 132 = some ⟨(.struct [(0, 12, false), (1, 12, false), (2, 124, false), (3, 125, false), (4, 5, false), (5, 5, false), (6, 126, false), (7, 127, false), (8, 128, false), (9, 129, false), (10, 130, false)]), 11, 48, some [.int .u64 0, .int .u64 0, .int .u32 0, .int .u8 0, .int .u8 0, .int .u8 0, .int .u8 0, .func, .ptr, .int .i32 0, .int .i32 0], false⟩ := rfl
theorem ty133 : E.ty.get 133 = some ⟨(.struct [(0, 57, false), (5, 3, false)]), 6, 48, some [.str, .int .i64 0, .bool false, .bool false, .int .i64 0, .int .i64 0], true⟩ := rfl
theorem ty134 : E.ty.get 134 = some ⟨(.struct [(0, 57, false), (5, 3, false)]), 6, 48, some [.str, .int .i64 0, .bool false, .bool false, .int .i64 0, .int .i64 0], true⟩ := rfl
theorem ty135 : E.ty.get 135 = some ⟨.other, 1, 8, some [.ptr], true⟩ := rfl
set_option linter.defProp false in
def tyB := And.intro ty0 <| And.intro ty1 <| And.intro ty2 <| And.intro ty3 <| And.intro ty4 <| And.intro ty5 <| And.intro ty6 <| And.intro ty7 <| And.intro ty8 <| And.intro ty9 <| And.intro ty10 <| And.intro ty11 <| And.intro ty12 <| And.intro ty13 <| And.intro ty14 <| And.intro ty15 <| And.intro ty16 <| And.intro ty17 <| And.intro ty18 <| And.intro ty19 <| And.intro ty20 <| And.intro ty21 <| And.intro ty22 <| And.intro ty23 <| And.intro ty24 <| And.intro ty25 <| And.intro ty26 <| And.intro ty27 <| And.intro ty28 <| And.intro ty29 <| And.intro ty30 <| And.intro ty31 <| And.intro ty32 <| And.intro ty33 <| And.intro ty34 <| And.intro ty35 <| And.intro ty36 <| And.intro ty37 <| And.intro ty38 <| And.intro ty39 <| And.intro ty40 <| And.intro ty41 <| And.intro ty42 <| And.intro ty43 <| And.intro ty44 <| And.intro ty45 <| And.intro ty46 <| And.intro ty47 <| And.intro ty48 <| And.intro ty49 <| And.intro ty50 <| And.intro ty51 <| And.intro ty52 <| And.intro ty53 <| And.intro ty54 <| And.intro ty55 <| And.intro ty56 <| And.intro ty57 <| And.intro ty58 <| And.intro ty59 <| And.intro ty60 <| And.intro ty61 <| And.intro ty62 <| And.intro ty63 <| And.intro ty64 <| And.intro ty65 <| And.intro ty66 <| And.intro ty67 <| And.intro ty68 <| And.intro ty69 <| And.intro ty70 <| And.intro ty71 <| And.intro ty72 <| And.intro ty73 <| And.intro ty74 <| And.intro ty75 <| And.intro ty76 <| And.intro ty77 <| And.intro ty78 <| And.intro ty79 <| And.intro ty80 <| And.intro ty81 <| And.intro ty82 <| And.intro ty83 <| And.intro ty84 <| And.intro ty85 <| And.intro ty86 <| And.intro ty87 <| And.intro ty88 <| And.intro ty89 <| And.intro ty90 <| And.intro ty91 <| And.intro ty92 <| And.intro ty93 <| And.intro ty94 <| And.intro ty95 <| And.intro ty96 <| And.intro ty97 <| And.intro ty98 <| And.intro ty99 <| And.intro ty100 <| And.intro ty101 <| And.intro ty102 <| And.intro ty103 <| And.intro ty104 <| And.intro ty105 <| And.intro ty106 <| And.intro ty107 <| And.intro ty108 <| And.intro ty109 <| And.intro ty110 <| And.intro ty111 <| And.intro ty112 <| And.intro ty113 <| And.intro ty114 <| And.intro ty115 <| And.intro ty116 <| And.intro ty117 <| And.intro ty118 <| And.intro ty119 <| And.intro ty120 <| And.intro ty121 <| And.intro ty122 <| And.intro ty123 <| And.intro ty124 <| And.intro ty125 <| And.intro ty126 <| And.intro ty127 <| And.intro ty128 <| And.intro ty129 <| And.intro ty130 <| And.intro ty131 <| And.intro ty132 <| And.intro ty133 <| And.intro ty134 <| ty135
theorem Edp : E.dp = dp := rfl
theorem dpv : dp 22 = false ∧ dp 32 = true ∧ dp 38 = true ∧ dp 39 = true ∧ dp 40 = true ∧ dp 45 = false ∧ dp 53 = true ∧ dp 71 = false ∧ dp 93 = true ∧ True := ⟨rfl, rfl, rfl, rfl, rfl, rfl, rfl, rfl, rfl, trivial⟩
end Go.Proofs.Ytkhcbbpfchgemaa.AbsN
