/-
  A part of a law's proof.
-/
import Derived.Test.YtlmcjfnignbdoaaAEnvA
import Derived.Test.YtlmcjfnignbdoaaAMd
import Derived.Test.YtlmcjfnignbdoaaAMe
namespace Go.Proofs.Ytlmcjfnignbdoaa.Abs
open Go AbsYtlmcjfnignbdoaa
set_option maxRecDepth 100000
def isT : Option (Value × AHeap) → Bool
  | some (.bool true, _) => true
  | _ => false
theorem isT_some {o : Option (Value × AHeap)} (h : isT o = true) : ∃ H, o = some (.bool true, H) := by
  unfold isT at h
  split at h
  · exact ⟨_, rfl⟩
  · cases h
theorem awake21 : isT (callF E0 (exec E0 200) 21 [] .empty) = true := by kernel_rfl
noncomputable def E : Env := E0.worked .empty [(21, .bool true)]
theorem env_ok : EnvOk E := EnvOk.with env0_ok (by kernel_rfl) _ (by
  intro p hp
  simp only [List.mem_singleton] at hp
  subst hp
  obtain ⟨H, h⟩ := isT_some awake21
  exact ⟨rfl, 200, H, h⟩)
theorem base_same {H : AHeap} : sameBase .empty E0.nb H = true := rfl
theorem ty0 : E.ty.get 0 = some ⟨.other, 1, 0, none, true⟩ := rfl
theorem ty1 : E.ty.get 1 = some ⟨.func, 1, 8, some [.func], true⟩ := rfl
theorem ty2 : E.ty.get 2 = some ⟨(.int .i64), 1, 8, some [.int .i64 0], true⟩ := rfl
theorem ty3 : E.ty.get 3 = some ⟨(.int .i64), 1, 8, some [.int .i64 0], true⟩ := rfl
theorem ty4 : E.ty.get 4 = some ⟨.bool, 1, 1, some [.bool false], true⟩ := rfl
theorem ty5 : E.ty.get 5 = some ⟨(.int .u8), 1, 1, some [.int .u8 0], true⟩ := rfl
theorem ty6 : E.ty.get 6 = some ⟨(.int .u8), 1, 1, some [.int .u8 0], true⟩ := rfl
theorem ty7 : E.ty.get 7 = some ⟨(.struct [(0, 2, false), (1, 3, false), (2, 4, false), (3, 6, false)]), 4, 24, some [.int .i64 0, .int .i64 0, .bool false, .int .u8 0], true⟩ := rfl
theorem ty8 : E.ty.get 8 = some ⟨(.struct [(0, 2, false), (1, 3, false), (2, 4, false), (3, 6, false)]), 4, 24, some [.int .i64 0, .int .i64 0, .bool false, .int .u8 0], true⟩ := rfl
theorem ty9 : E.ty.get 9 = some ⟨.string, 1, 16, some [.str], true⟩ := rfl
theorem ty10 : E.ty.get 10 = some ⟨.string, 1, 16, some [.str], true⟩ := rfl
theorem ty11 : E.ty.get 11 = some ⟨.string, 1, 16, some [.str], true⟩ := rfl
theorem ty12 : E.ty.get 12 = some ⟨(.int .u64), 1, 8, some [.int .u64 0], true⟩ := rfl
theorem ty13 : E.ty.get 13 = some ⟨(.struct [(0, 9, false), (1, 12, false)]), 2, 24, some [.str, .int .u64 0], false⟩ := rfl
theorem ty14 : E.ty.get 14 = some ⟨(.struct [(0, 9, false), (1, 12, false)]), 2, 24, some [.str, .int .u64 0], false⟩ := rfl
theorem ty15 : E.ty.get 15 = some ⟨(.ptr 103), 1, 8, some [.ptr], true⟩ := rfl
theorem ty16 : E.ty.get 16 = some ⟨(.ptr 106), 1, 8, some [.ptr], true⟩ := rfl
theorem ty17 : E.ty.get 17 = some ⟨(.ptr 115), 1, 8, some [.ptr], true⟩ := rfl
theorem ty18 : E.ty.get 18 = some ⟨(.struct [(0, 17, false)]), 1, 8, some [.ptr], false⟩ := rfl
theorem ty19 : E.ty.get 19 = some ⟨(.struct [(0, 17, false)]), 1, 8, some [.ptr], false⟩ := rfl
theorem ty20 : E.ty.get 20 = some ⟨(.iface true), 1, 16, some [.iface], true⟩ := rfl
theorem ty21 : E.ty.get 21 = some ⟨(.int .i32), 1, 4, some [.int .i32 0], true⟩ := rfl
theorem ty22 : E.ty.get 22 = some ⟨.func, 1, 8, some [.func], true⟩ := rfl
theorem ty23 : E.ty.get 23 = some ⟨.func, 1, 8, some [.func], true⟩ := rfl
theorem ty24 : E.ty.get 24 = some ⟨.func, 1, 8, some [.func], true⟩ := rfl
theorem ty25 : E.ty.get 25 = some ⟨.func, 1, 8, some [.func], true⟩ := rfl
theorem ty26 : E.ty.get 26 = some ⟨.func, 1, 8, some [.func], true⟩ := rfl
theorem ty27 : E.ty.get 27 = some ⟨(.slice 3), 1, 24, some [.slice], true⟩ := rfl
theorem ty28 : E.ty.get 28 = some ⟨.func, 1, 8, some [.func], true⟩ := rfl
theorem ty29 : E.ty.get 29 = some ⟨(.slice 84), 1, 24, some [.slice], true⟩ := rfl
theorem ty30 : E.ty.get 30 = some ⟨(.struct [(0, 9, false), (1, 9, false), (2, 3, false), (3, 4, false), (4, 29, false), (5, 9, false), (6, 3, false), (7, 3, false), (8, 9, false)]), 9, 120, some [.str, .str, .int .i64 0, .bool false, .slice, .str, .int .i64 0, .int .i64 0, .str], true⟩ := rfl
theorem ty31 : E.ty.get 31 = some ⟨(.struct [(0, 9, false), (1, 9, false), (2, 3, false), (3, 4, false), (4, 29, false), (5, 9, false), (6, 3, false), (7, 3, false), (8, 9, false)]), 9, 120, some [.str, .str, .int .i64 0, .bool false, .slice, .str, .int .i64 0, .int .i64 0, .str], true⟩ := rfl
theorem ty32 : E.ty.get 32 = some ⟨(.arr 2 3), 2, 16, some [.int .i64 0, .int .i64 0], true⟩ := rfl
theorem ty33 : E.ty.get 33 = some ⟨.func, 1, 8, some [.func], true⟩ := rfl
theorem ty34 : E.ty.get 34 = some ⟨.func, 1, 8, some [.func], true⟩ := rfl
theorem ty35 : E.ty.get 35 = some ⟨(.struct [(0, 4, false), (1, 9, false), (2, 9, false), (3, 3, false), (4, 4, false), (5, 29, false)]), 6, 80, some [.bool false, .str, .str, .int .i64 0, .bool false, .slice], true⟩ := rfl
theorem ty36 : E.ty.get 36 = some ⟨(.struct [(0, 4, false), (1, 9, false), (2, 9, false), (3, 3, false), (4, 4, false), (5, 29, false)]), 6, 80, some [.bool false, .str, .str, .int .i64 0, .bool false, .slice], true⟩ := rfl
theorem ty37 : E.ty.get 37 = some ⟨(.slice 92), 1, 24, some [.slice], true⟩ := rfl
theorem ty38 : E.ty.get 38 = some ⟨(.slice 9), 1, 24, some [.slice], true⟩ := rfl
theorem ty39 : E.ty.get 39 = some ⟨(.struct [(0, 3, false), (1, 3, false), (2, 3, false), (3, 29, false), (4, 4, false), (5, 3, false), (6, 9, false), (7, 36, false), (13, 4, false), (14, 9, false), (15, 4, false), (16, 9, false), (17, 4, false), (18, 9, false), (19, 9, false), (20, 3, false), (21, 4, false), (22, 4, false), (23, 37, false), (24, 38, false), (25, 27, false)]), 26, 336, some [.int .i64 0, .int .i64 0, .int .i64 0, .slice, .bool false, .int .i64 0, .str, .bool false, .str, .str, .int .i64 0, .bool false, .slice, .bool false, .str, .bool false, .str, .bool false, .str, .str, .int .i64 0, .bool false, .bool false, .slice, .slice, .slice], true⟩ := rfl
theorem ty40 : E.ty.get 40 = some ⟨(.struct [(0, 3, false), (1, 3, false), (2, 3, false), (3, 29, false), (4, 4, false), (5, 3, false), (6, 9, false), (7, 36, false), (13, 4, false), (14, 9, false), (15, 4, false), (16, 9, false), (17, 4, false), (18, 9, false), (19, 9, false), (20, 3, false), (21, 4, false), (22, 4, false), (23, 37, false), (24, 38, false), (25, 27, false)]), 26, 336, some [.int .i64 0, .int .i64 0, .int .i64 0, .slice, .bool false, .int .i64 0, .str, .bool false, .str, .str, .int .i64 0, .bool false, .slice, .bool false, .str, .bool false, .str, .bool false, .str, .str, .int .i64 0, .bool false, .bool false, .slice, .slice, .slice], true⟩ := rfl
theorem ty41 : E.ty.get 41 = some ⟨.func, 1, 8, some [.func], true⟩ := rfl
theorem ty42 : E.ty.get 42 = some ⟨.func, 1, 8, some [.func], true⟩ := rfl
theorem ty43 : E.ty.get 43 = some ⟨(.slice 55), 1, 24, some [.slice], true⟩ := rfl
theorem ty44 : E.ty.get 44 = some ⟨.func, 1, 8, some [.func], true⟩ := rfl
theorem ty45 : E.ty.get 45 = some ⟨(.ptr 52), 1, 8, some [.ptr], true⟩ := rfl
theorem ty46 : E.ty.get 46 = some ⟨.func, 1, 8, some [.func], true⟩ := rfl
theorem ty47 : E.ty.get 47 = some ⟨(.ptr 69), 1, 8, some [.ptr], true⟩ := rfl
theorem ty48 : E.ty.get 48 = some ⟨.func, 1, 8, some [.func], true⟩ := rfl
theorem ty49 : E.ty.get 49 = some ⟨(.ptr 95), 1, 8, some [.ptr], true⟩ := rfl
theorem ty50 : E.ty.get 50 = some ⟨(.slice 75), 1, 24, some [.slice], true⟩ := rfl
theorem ty51 : E.ty.get 51 = some ⟨(.struct [(0, 49, false), (1, 50, false)]), 2, 32, some [.ptr, .slice], true⟩ := rfl
theorem ty52 : E.ty.get 52 = some ⟨(.struct [(0, 49, false), (1, 50, false)]), 2, 32, some [.ptr, .slice], true⟩ := rfl
theorem ty53 : E.ty.get 53 = some ⟨(.slice 45), 1, 24, some [.slice], true⟩ := rfl
theorem ty54 : E.ty.get 54 = some ⟨(.struct [(0, 3, false), (1, 31, false), (10, 3, false), (11, 3, false), (12, 3, false), (13, 3, false)]), 14, 160, some [.int .i64 0, .str, .str, .int .i64 0, .bool false, .slice, .str, .int .i64 0, .int .i64 0, .str, .int .i64 0, .int .i64 0, .int .i64 0, .int .i64 0], true⟩ := rfl
theorem ty55 : E.ty.get 55 = some ⟨(.struct [(0, 3, false), (1, 31, false), (10, 3, false), (11, 3, false), (12, 3, false), (13, 3, false)]), 14, 160, some [.int .i64 0, .str, .str, .int .i64 0, .bool false, .slice, .str, .int .i64 0, .int .i64 0, .str, .int .i64 0, .int .i64 0, .int .i64 0, .int .i64 0], true⟩ := rfl
theorem ty56 : E.ty.get 56 = some ⟨.other, 1, 0, none, true⟩ := rfl
theorem ty57 : E.ty.get 57 = some ⟨.func, 1, 8, some [.func], true⟩ := rfl
theorem ty58 : E.ty.get 58 = some ⟨.other, 1, 0, none, true⟩ := rfl
theorem ty59 : E.ty.get 59 = some ⟨.func, 1, 8, some [.func], true⟩ := rfl
theorem ty60 : E.ty.get 60 = some ⟨.func, 1, 8, some [.func], true⟩ := rfl
theorem ty61 : E.ty.get 61 = some ⟨.func, 1, 8, some [.func], true⟩ := rfl
theorem ty62 : E.ty.get 62 = some ⟨.func, 1, 8, some [.func], true⟩ := rfl
theorem ty63 : E.ty.get 63 = some ⟨(.slice 31), 1, 24, some [.slice], true⟩ := rfl
theorem ty64 : E.ty.get 64 = some ⟨.func, 1, 8, some [.func], true⟩ := rfl
theorem ty65 : E.ty.get 65 = some ⟨.func, 1, 8, some [.func], true⟩ := rfl
theorem ty66 : E.ty.get 66 = some ⟨.func, 1, 8, some [.func], true⟩ := rfl
theorem ty67 : E.ty.get 67 = some ⟨(.ptr 97), 1, 8, some [.ptr], true⟩ := rfl
theorem ty68 : E.ty.get 68 = some ⟨(.struct [(0, 67, false), (1, 50, false)]), 2, 32, some [.ptr, .slice], true⟩ := rfl
theorem ty69 : E.ty.get 69 = some ⟨(.struct [(0, 67, false), (1, 50, false)]), 2, 32, some [.ptr, .slice], true⟩ := rfl
theorem ty70 : E.ty.get 70 = some ⟨.func, 1, 8, some [.func], true⟩ := rfl
theorem ty71 : E.ty.get 71 = some ⟨.func, 1, 8, some [.func], true⟩ := rfl
theorem ty72 : E.ty.get 72 = some ⟨(.slice 40), 1, 24, some [.slice], true⟩ := rfl
theorem ty73 : E.ty.get 73 = some ⟨.func, 1, 8, some [.func], true⟩ := rfl
theorem ty74 : E.ty.get 74 = some ⟨(.struct [(0, 3, false), (1, 3, false), (2, 31, false)]), 11, 136, some [.int .i64 0, .int .i64 0, .str, .str, .int .i64 0, .bool false, .slice, .str, .int .i64 0, .int .i64 0, .str], true⟩ := rfl
theorem ty75 : E.ty.get 75 = some ⟨(.struct [(0, 3, false), (1, 3, false), (2, 31, false)]), 11, 136, some [.int .i64 0, .int .i64 0, .str, .str, .int .i64 0, .bool false, .slice, .str, .int .i64 0, .int .i64 0, .str], true⟩ := rfl
theorem ty76 : E.ty.get 76 = some ⟨.func, 1, 8, some [.func], true⟩ := rfl
theorem ty77 : E.ty.get 77 = some ⟨.func, 1, 8, some [.func], true⟩ := rfl
theorem ty78 : E.ty.get 78 = some ⟨.func, 1, 8, some [.func], true⟩ := rfl
theorem ty79 : E.ty.get 79 = some ⟨.func, 1, 8, some [.func], true⟩ := rfl
theorem ty80 : E.ty.get 80 = some ⟨.func, 1, 8, some [.func], true⟩ := rfl
theorem ty81 : E.ty.get 81 = some ⟨.func, 1, 8, some [.func], true⟩ := rfl
theorem ty82 : E.ty.get 82 = some ⟨.func, 1, 8, some [.func], true⟩ := rfl
theorem ty83 : E.ty.get 83 = some ⟨(.struct [(0, 3, false), (1, 3, false), (2, 9, false), (3, 9, false)]), 4, 48, some [.int .i64 0, .int .i64 0, .str, .str], true⟩ := rfl
theorem ty84 : E.ty.get 84 = some ⟨(.struct [(0, 3, false), (1, 3, false), (2, 9, false), (3, 9, false)]), 4, 48, some [.int .i64 0, .int .i64 0, .str, .str], true⟩ := rfl
theorem ty85 : E.ty.get 85 = some ⟨.func, 1, 8, some [.func], true⟩ := rfl
theorem ty86 : E.ty.get 86 = some ⟨.func, 1, 8, some [.func], true⟩ := rfl
theorem ty87 : E.ty.get 87 = some ⟨.func, 1, 8, some [.func], true⟩ := rfl
theorem ty88 : E.ty.get 88 = some ⟨.func, 1, 8, some [.func], true⟩ := rfl
theorem ty89 : E.ty.get 89 = some ⟨.func, 1, 8, some [.func], true⟩ := rfl
theorem ty90 : E.ty.get 90 = some ⟨.func, 1, 8, some [.func], true⟩ := rfl
theorem ty91 : E.ty.get 91 = some ⟨(.struct [(0, 9, false), (1, 3, false), (2, 4, false), (3, 4, false), (4, 3, false)]), 5, 40, some [.str, .int .i64 0, .bool false, .bool false, .int .i64 0], true⟩ := rfl
theorem ty92 : E.ty.get 92 = some ⟨(.struct [(0, 9, false), (1, 3, false), (2, 4, false), (3, 4, false), (4, 3, false)]), 5, 40, some [.str, .int .i64 0, .bool false, .bool false, .int .i64 0], true⟩ := rfl
theorem ty93 : E.ty.get 93 = some ⟨(.map 3 4), 1, 8, some [.map], true⟩ := rfl
theorem ty94 : E.ty.get 94 = some ⟨(.struct [(0, 3, false), (1, 3, false), (2, 93, false)]), 3, 24, some [.int .i64 0, .int .i64 0, .map], true⟩ := rfl
theorem ty95 : E.ty.get 95 = some ⟨(.struct [(0, 3, false), (1, 3, false), (2, 93, false)]), 3, 24, some [.int .i64 0, .int .i64 0, .map], true⟩ := rfl
theorem ty96 : E.ty.get 96 = some ⟨(.struct [(0, 3, false), (1, 3, false), (2, 27, false)]), 3, 40, some [.int .i64 0, .int .i64 0, .slice], true⟩ := rfl
theorem ty97 : E.ty.get 97 = some ⟨(.struct [(0, 3, false), (1, 3, false), (2, 27, false)]), 3, 40, some [.int .i64 0, .int .i64 0, .slice], true⟩ := rfl
theorem ty98 : E.ty.get 98 = some ⟨.func, 1, 8, some [.func], true⟩ := rfl
theorem ty99 : E.ty.get 99 = some ⟨.func, 1, 8, some [.func], true⟩ := rfl
theorem ty100 : E.ty.get 100 = some ⟨.func, 1, 8, some [.func], true⟩ := rfl
theorem ty101 : E.ty.get 101 = some ⟨.func, 1, 8, some [.func], true⟩ := rfl
theorem ty102 : E.ty.get 102 = some ⟨(.struct [(0, 17, false), (1, 17, false), (2, 17, false), (3, 9, false)]), 4, 40, some [.ptr, .ptr, .ptr, .str], false⟩ := rfl
theorem ty103 : E.ty.get 103 = some ⟨(.struct [(0, 17, false), (1, 17, false), (2, 17, false), (3, 9, false)]), 4, 40, some [.ptr, .ptr, .ptr, .str], false⟩ := rfl
theorem ty104 : E.ty.get 104 = some ⟨(.arr 0 16), 0, 0, some [], true⟩ := rfl
theorem ty105 : E.ty.get 105 = some ⟨(.struct [(0, 104, true)]), 0, 0, some [], false⟩ := rfl
theorem ty106 : E.ty.get 106 = some ⟨(.struct [(0, 104, true)]), 0, 0, some [], false⟩ := rfl
theorem ty107 : E.ty.get 107 = some ⟨(.int .u32), 1, 4, some [.int .u32 0], true⟩ := rfl
theorem ty108 : E.ty.get 108 = some ⟨(.int .u8), 1, 1, some [.int .u8 0], true⟩ := rfl
theorem ty109 : E.ty.get 109 = some ⟨(.int .u8), 1, 1, some [.int .u8 0], true⟩ := rfl
theorem ty110 : E.ty.get 110 = some ⟨.func, 1, 8, some [.func], true⟩ := rfl
theorem ty111 : E.ty.get 111 = some ⟨(.ptr 5), 1, 8, some [.ptr], true⟩ := rfl
theorem ty112 : E.ty.get 112 = some ⟨(.int .i32), 1, 4, some [.int .i32 0], true⟩ := rfl
theorem ty113 : E.ty.get 113 = some ⟨(.int .i32), 1, 4, some [.int .i32 0], true⟩ := rfl
theorem ty114 : E.ty.get 114 = some ⟨(.struct [(0, 12, false), (1, 12, false), (2, 107, false), (3, 108, false), (4, 5, false), (5, 5, false), (6, 109, false), (7, 110, false), (8, 111, false), (9, 112, false), (10, 113, false)]), 11, 48, some [.int .u64 0, .int .u64 0, .int .u32 0, .int .u8 0, .int .u8 0, .int .u8 0, .int .u8 0, .func, .ptr, .int .i32 0, .int .i32 0], false⟩ := rfl
theorem ty115 : E.ty.get 115 = some ⟨(.struct [(0, 12, false), (1, 12, false), (2, 107, false), (3, 108, false), (4, 5, false), (5, 5, false), (6, 109, false), (7, 110, false), (8, 111, false), (9, 112, false), (10, 113, false)]), 11, 48, some [.int .u64 0, .int .u64 0, .int .u32 0, .int .u8 0, .int .u8 0, .int .u8 0, .int .u8 0, .func, .ptr, .int .i32 0, .int .i32 0], false⟩ := rfl
theorem ty116 : E.ty.get 116 = some ⟨.other, 1, 8, some [.ptr], true⟩ := rfl
theorem fa7_0 (b x : Nat) : afieldAddr E 7 (.pointer (some ⟨b, x, none⟩)) 0 = some (.pointer (some ⟨b, x + 0, none⟩)) := rfl
theorem fa7_1 (b x : Nat) : afieldAddr E 7 (.pointer (some ⟨b, x, none⟩)) 1 = some (.pointer (some ⟨b, x + 1, none⟩)) := rfl
theorem fa7_2 (b x : Nat) : afieldAddr E 7 (.pointer (some ⟨b, x, none⟩)) 2 = some (.pointer (some ⟨b, x + 2, none⟩)) := rfl
theorem fa7_3 (b x : Nat) : afieldAddr E 7 (.pointer (some ⟨b, x, none⟩)) 3 = some (.pointer (some ⟨b, x + 3, none⟩)) := rfl
theorem fa8_0 (b x : Nat) : afieldAddr E 8 (.pointer (some ⟨b, x, none⟩)) 0 = some (.pointer (some ⟨b, x + 0, none⟩)) := rfl
theorem fa8_1 (b x : Nat) : afieldAddr E 8 (.pointer (some ⟨b, x, none⟩)) 1 = some (.pointer (some ⟨b, x + 1, none⟩)) := rfl
theorem fa8_2 (b x : Nat) : afieldAddr E 8 (.pointer (some ⟨b, x, none⟩)) 2 = some (.pointer (some ⟨b, x + 2, none⟩)) := rfl
theorem fa8_3 (b x : Nat) : afieldAddr E 8 (.pointer (some ⟨b, x, none⟩)) 3 = some (.pointer (some ⟨b, x + 3, none⟩)) := rfl
theorem fa13_0 (b x : Nat) : afieldAddr E 13 (.pointer (some ⟨b, x, none⟩)) 0 = some (.pointer (some ⟨b, x + 0, none⟩)) := rfl
theorem fa13_1 (b x : Nat) : afieldAddr E 13 (.pointer (some ⟨b, x, none⟩)) 1 = some (.pointer (some ⟨b, x + 1, none⟩)) := rfl
theorem fa14_0 (b x : Nat) : afieldAddr E 14 (.pointer (some ⟨b, x, none⟩)) 0 = some (.pointer (some ⟨b, x + 0, none⟩)) := rfl
theorem fa14_1 (b x : Nat) : afieldAddr E 14 (.pointer (some ⟨b, x, none⟩)) 1 = some (.pointer (some ⟨b, x + 1, none⟩)) := rfl
theorem fa18_0 (b x : Nat) : afieldAddr E 18 (.pointer (some ⟨b, x, none⟩)) 0 = some (.pointer (some ⟨b, x + 0, none⟩)) := rfl
theorem fa19_0 (b x : Nat) : afieldAddr E 19 (.pointer (some ⟨b, x, none⟩)) 0 = some (.pointer (some ⟨b, x + 0, none⟩)) := rfl
theorem fa30_0 (b x : Nat) : afieldAddr E 30 (.pointer (some ⟨b, x, none⟩)) 0 = some (.pointer (some ⟨b, x + 0, none⟩)) := rfl
theorem fa30_1 (b x : Nat) : afieldAddr E 30 (.pointer (some ⟨b, x, none⟩)) 1 = some (.pointer (some ⟨b, x + 1, none⟩)) := rfl
theorem fa30_2 (b x : Nat) : afieldAddr E 30 (.pointer (some ⟨b, x, none⟩)) 2 = some (.pointer (some ⟨b, x + 2, none⟩)) := rfl
theorem fa30_3 (b x : Nat) : afieldAddr E 30 (.pointer (some ⟨b, x, none⟩)) 3 = some (.pointer (some ⟨b, x + 3, none⟩)) := rfl
theorem fa30_4 (b x : Nat) : afieldAddr E 30 (.pointer (some ⟨b, x, none⟩)) 4 = some (.pointer (some ⟨b, x + 4, none⟩)) := rfl
theorem fa30_5 (b x : Nat) : afieldAddr E 30 (.pointer (some ⟨b, x, none⟩)) 5 = some (.pointer (some ⟨b, x + 5, none⟩)) := rfl
theorem fa30_6 (b x : Nat) : afieldAddr E 30 (.pointer (some ⟨b, x, none⟩)) 6 = some (.pointer (some ⟨b, x + 6, none⟩)) := rfl
theorem fa30_7 (b x : Nat) : afieldAddr E 30 (.pointer (some ⟨b, x, none⟩)) 7 = some (.pointer (some ⟨b, x + 7, none⟩)) := rfl
theorem fa30_8 (b x : Nat) : afieldAddr E 30 (.pointer (some ⟨b, x, none⟩)) 8 = some (.pointer (some ⟨b, x + 8, none⟩)) := rfl
theorem fa31_0 (b x : Nat) : afieldAddr E 31 (.pointer (some ⟨b, x, none⟩)) 0 = some (.pointer (some ⟨b, x + 0, none⟩)) := rfl
theorem fa31_1 (b x : Nat) : afieldAddr E 31 (.pointer (some ⟨b, x, none⟩)) 1 = some (.pointer (some ⟨b, x + 1, none⟩)) := rfl
theorem fa31_2 (b x : Nat) : afieldAddr E 31 (.pointer (some ⟨b, x, none⟩)) 2 = some (.pointer (some ⟨b, x + 2, none⟩)) := rfl
theorem fa31_3 (b x : Nat) : afieldAddr E 31 (.pointer (some ⟨b, x, none⟩)) 3 = some (.pointer (some ⟨b, x + 3, none⟩)) := rfl
theorem fa31_4 (b x : Nat) : afieldAddr E 31 (.pointer (some ⟨b, x, none⟩)) 4 = some (.pointer (some ⟨b, x + 4, none⟩)) := rfl
theorem fa31_5 (b x : Nat) : afieldAddr E 31 (.pointer (some ⟨b, x, none⟩)) 5 = some (.pointer (some ⟨b, x + 5, none⟩)) := rfl
theorem fa31_6 (b x : Nat) : afieldAddr E 31 (.pointer (some ⟨b, x, none⟩)) 6 = some (.pointer (some ⟨b, x + 6, none⟩)) := rfl
theorem fa31_7 (b x : Nat) : afieldAddr E 31 (.pointer (some ⟨b, x, none⟩)) 7 = some (.pointer (some ⟨b, x + 7, none⟩)) := rfl
theorem fa31_8 (b x : Nat) : afieldAddr E 31 (.pointer (some ⟨b, x, none⟩)) 8 = some (.pointer (some ⟨b, x + 8, none⟩)) := rfl
theorem fa35_0 (b x : Nat) : afieldAddr E 35 (.pointer (some ⟨b, x, none⟩)) 0 = some (.pointer (some ⟨b, x + 0, none⟩)) := rfl
theorem fa35_1 (b x : Nat) : afieldAddr E 35 (.pointer (some ⟨b, x, none⟩)) 1 = some (.pointer (some ⟨b, x + 1, none⟩)) := rfl
theorem fa35_2 (b x : Nat) : afieldAddr E 35 (.pointer (some ⟨b, x, none⟩)) 2 = some (.pointer (some ⟨b, x + 2, none⟩)) := rfl
theorem fa35_3 (b x : Nat) : afieldAddr E 35 (.pointer (some ⟨b, x, none⟩)) 3 = some (.pointer (some ⟨b, x + 3, none⟩)) := rfl
theorem fa35_4 (b x : Nat) : afieldAddr E 35 (.pointer (some ⟨b, x, none⟩)) 4 = some (.pointer (some ⟨b, x + 4, none⟩)) := rfl
theorem fa35_5 (b x : Nat) : afieldAddr E 35 (.pointer (some ⟨b, x, none⟩)) 5 = some (.pointer (some ⟨b, x + 5, none⟩)) := rfl
theorem fa36_0 (b x : Nat) : afieldAddr E 36 (.pointer (some ⟨b, x, none⟩)) 0 = some (.pointer (some ⟨b, x + 0, none⟩)) := rfl
theorem fa36_1 (b x : Nat) : afieldAddr E 36 (.pointer (some ⟨b, x, none⟩)) 1 = some (.pointer (some ⟨b, x + 1, none⟩)) := rfl
theorem fa36_2 (b x : Nat) : afieldAddr E 36 (.pointer (some ⟨b, x, none⟩)) 2 = some (.pointer (some ⟨b, x + 2, none⟩)) := rfl
theorem fa36_3 (b x : Nat) : afieldAddr E 36 (.pointer (some ⟨b, x, none⟩)) 3 = some (.pointer (some ⟨b, x + 3, none⟩)) := rfl
theorem fa36_4 (b x : Nat) : afieldAddr E 36 (.pointer (some ⟨b, x, none⟩)) 4 = some (.pointer (some ⟨b, x + 4, none⟩)) := rfl
theorem fa36_5 (b x : Nat) : afieldAddr E 36 (.pointer (some ⟨b, x, none⟩)) 5 = some (.pointer (some ⟨b, x + 5, none⟩)) := rfl
theorem fa39_0 (b x : Nat) : afieldAddr E 39 (.pointer (some ⟨b, x, none⟩)) 0 = some (.pointer (some ⟨b, x + 0, none⟩)) := rfl
theorem fa39_1 (b x : Nat) : afieldAddr E 39 (.pointer (some ⟨b, x, none⟩)) 1 = some (.pointer (some ⟨b, x + 1, none⟩)) := rfl
theorem fa39_2 (b x : Nat) : afieldAddr E 39 (.pointer (some ⟨b, x, none⟩)) 2 = some (.pointer (some ⟨b, x + 2, none⟩)) := rfl
theorem fa39_3 (b x : Nat) : afieldAddr E 39 (.pointer (some ⟨b, x, none⟩)) 3 = some (.pointer (some ⟨b, x + 3, none⟩)) := rfl
theorem fa39_4 (b x : Nat) : afieldAddr E 39 (.pointer (some ⟨b, x, none⟩)) 4 = some (.pointer (some ⟨b, x + 4, none⟩)) := rfl
theorem fa39_5 (b x : Nat) : afieldAddr E 39 (.pointer (some ⟨b, x, none⟩)) 5 = some (.pointer (some ⟨b, x + 5, none⟩)) := rfl
theorem fa39_6 (b x : Nat) : afieldAddr E 39 (.pointer (some ⟨b, x, none⟩)) 6 = some (.pointer (some ⟨b, x + 6, none⟩)) := rfl
theorem fa39_7 (b x : Nat) : afieldAddr E 39 (.pointer (some ⟨b, x, none⟩)) 7 = some (.pointer (some ⟨b, x + 7, none⟩)) := rfl
theorem fa39_8 (b x : Nat) : afieldAddr E 39 (.pointer (some ⟨b, x, none⟩)) 8 = some (.pointer (some ⟨b, x + 13, none⟩)) := rfl
theorem fa39_9 (b x : Nat) : afieldAddr E 39 (.pointer (some ⟨b, x, none⟩)) 9 = some (.pointer (some ⟨b, x + 14, none⟩)) := rfl
theorem fa39_10 (b x : Nat) : afieldAddr E 39 (.pointer (some ⟨b, x, none⟩)) 10 = some (.pointer (some ⟨b, x + 15, none⟩)) := rfl
theorem fa39_11 (b x : Nat) : afieldAddr E 39 (.pointer (some ⟨b, x, none⟩)) 11 = some (.pointer (some ⟨b, x + 16, none⟩)) := rfl
theorem fa39_12 (b x : Nat) : afieldAddr E 39 (.pointer (some ⟨b, x, none⟩)) 12 = some (.pointer (some ⟨b, x + 17, none⟩)) := rfl
theorem fa39_13 (b x : Nat) : afieldAddr E 39 (.pointer (some ⟨b, x, none⟩)) 13 = some (.pointer (some ⟨b, x + 18, none⟩)) := rfl
theorem fa39_14 (b x : Nat) : afieldAddr E 39 (.pointer (some ⟨b, x, none⟩)) 14 = some (.pointer (some ⟨b, x + 19, none⟩)) := rfl
theorem fa39_15 (b x : Nat) : afieldAddr E 39 (.pointer (some ⟨b, x, none⟩)) 15 = some (.pointer (some ⟨b, x + 20, none⟩)) := rfl
theorem fa39_16 (b x : Nat) : afieldAddr E 39 (.pointer (some ⟨b, x, none⟩)) 16 = some (.pointer (some ⟨b, x + 21, none⟩)) := rfl
theorem fa39_17 (b x : Nat) : afieldAddr E 39 (.pointer (some ⟨b, x, none⟩)) 17 = some (.pointer (some ⟨b, x + 22, none⟩)) := rfl
theorem fa39_18 (b x : Nat) : afieldAddr E 39 (.pointer (some ⟨b, x, none⟩)) 18 = some (.pointer (some ⟨b, x + 23, none⟩)) := rfl
theorem fa39_19 (b x : Nat) : afieldAddr E 39 (.pointer (some ⟨b, x, none⟩)) 19 = some (.pointer (some ⟨b, x + 24, none⟩)) := rfl
theorem fa39_20 (b x : Nat) : afieldAddr E 39 (.pointer (some ⟨b, x, none⟩)) 20 = some (.pointer (some ⟨b, x + 25, none⟩)) := rfl
theorem fa40_0 (b x : Nat) : afieldAddr E 40 (.pointer (some ⟨b, x, none⟩)) 0 = some (.pointer (some ⟨b, x + 0, none⟩)) := rfl
theorem fa40_1 (b x : Nat) : afieldAddr E 40 (.pointer (some ⟨b, x, none⟩)) 1 = some (.pointer (some ⟨b, x + 1, none⟩)) := rfl
theorem fa40_2 (b x : Nat) : afieldAddr E 40 (.pointer (some ⟨b, x, none⟩)) 2 = some (.pointer (some ⟨b, x + 2, none⟩)) := rfl
theorem fa40_3 (b x : Nat) : afieldAddr E 40 (.pointer (some ⟨b, x, none⟩)) 3 = some (.pointer (some ⟨b, x + 3, none⟩)) := rfl
theorem fa40_4 (b x : Nat) : afieldAddr E 40 (.pointer (some ⟨b, x, none⟩)) 4 = some (.pointer (some ⟨b, x + 4, none⟩)) := rfl
theorem fa40_5 (b x : Nat) : afieldAddr E 40 (.pointer (some ⟨b, x, none⟩)) 5 = some (.pointer (some ⟨b, x + 5, none⟩)) := rfl
theorem fa40_6 (b x : Nat) : afieldAddr E 40 (.pointer (some ⟨b, x, none⟩)) 6 = some (.pointer (some ⟨b, x + 6, none⟩)) := rfl
theorem fa40_7 (b x : Nat) : afieldAddr E 40 (.pointer (some ⟨b, x, none⟩)) 7 = some (.pointer (some ⟨b, x + 7, none⟩)) := rfl
theorem fa40_8 (b x : Nat) : afieldAddr E 40 (.pointer (some ⟨b, x, none⟩)) 8 = some (.pointer (some ⟨b, x + 13, none⟩)) := rfl
theorem fa40_9 (b x : Nat) : afieldAddr E 40 (.pointer (some ⟨b, x, none⟩)) 9 = some (.pointer (some ⟨b, x + 14, none⟩)) := rfl
theorem fa40_10 (b x : Nat) : afieldAddr E 40 (.pointer (some ⟨b, x, none⟩)) 10 = some (.pointer (some ⟨b, x + 15, none⟩)) := rfl
theorem fa40_11 (b x : Nat) : afieldAddr E 40 (.pointer (some ⟨b, x, none⟩)) 11 = some (.pointer (some ⟨b, x + 16, none⟩)) := rfl
theorem fa40_12 (b x : Nat) : afieldAddr E 40 (.pointer (some ⟨b, x, none⟩)) 12 = some (.pointer (some ⟨b, x + 17, none⟩)) := rfl
theorem fa40_13 (b x : Nat) : afieldAddr E 40 (.pointer (some ⟨b, x, none⟩)) 13 = some (.pointer (some ⟨b, x + 18, none⟩)) := rfl
theorem fa40_14 (b x : Nat) : afieldAddr E 40 (.pointer (some ⟨b, x, none⟩)) 14 = some (.pointer (some ⟨b, x + 19, none⟩)) := rfl
theorem fa40_15 (b x : Nat) : afieldAddr E 40 (.pointer (some ⟨b, x, none⟩)) 15 = some (.pointer (some ⟨b, x + 20, none⟩)) := rfl
theorem fa40_16 (b x : Nat) : afieldAddr E 40 (.pointer (some ⟨b, x, none⟩)) 16 = some (.pointer (some ⟨b, x + 21, none⟩)) := rfl
theorem fa40_17 (b x : Nat) : afieldAddr E 40 (.pointer (some ⟨b, x, none⟩)) 17 = some (.pointer (some ⟨b, x + 22, none⟩)) := rfl
theorem fa40_18 (b x : Nat) : afieldAddr E 40 (.pointer (some ⟨b, x, none⟩)) 18 = some (.pointer (some ⟨b, x + 23, none⟩)) := rfl
theorem fa40_19 (b x : Nat) : afieldAddr E 40 (.pointer (some ⟨b, x, none⟩)) 19 = some (.pointer (some ⟨b, x + 24, none⟩)) := rfl
theorem fa40_20 (b x : Nat) : afieldAddr E 40 (.pointer (some ⟨b, x, none⟩)) 20 = some (.pointer (some ⟨b, x + 25, none⟩)) := rfl
theorem fa51_0 (b x : Nat) : afieldAddr E 51 (.pointer (some ⟨b, x, none⟩)) 0 = some (.pointer (some ⟨b, x + 0, none⟩)) := rfl
theorem fa51_1 (b x : Nat) : afieldAddr E 51 (.pointer (some ⟨b, x, none⟩)) 1 = some (.pointer (some ⟨b, x + 1, none⟩)) := rfl
theorem fa52_0 (b x : Nat) : afieldAddr E 52 (.pointer (some ⟨b, x, none⟩)) 0 = some (.pointer (some ⟨b, x + 0, none⟩)) := rfl
theorem fa52_1 (b x : Nat) : afieldAddr E 52 (.pointer (some ⟨b, x, none⟩)) 1 = some (.pointer (some ⟨b, x + 1, none⟩)) := rfl
theorem fa54_0 (b x : Nat) : afieldAddr E 54 (.pointer (some ⟨b, x, none⟩)) 0 = some (.pointer (some ⟨b, x + 0, none⟩)) := rfl
theorem fa54_1 (b x : Nat) : afieldAddr E 54 (.pointer (some ⟨b, x, none⟩)) 1 = some (.pointer (some ⟨b, x + 1, none⟩)) := rfl
theorem fa54_2 (b x : Nat) : afieldAddr E 54 (.pointer (some ⟨b, x, none⟩)) 2 = some (.pointer (some ⟨b, x + 10, none⟩)) := rfl
theorem fa54_3 (b x : Nat) : afieldAddr E 54 (.pointer (some ⟨b, x, none⟩)) 3 = some (.pointer (some ⟨b, x + 11, none⟩)) := rfl
theorem fa54_4 (b x : Nat) : afieldAddr E 54 (.pointer (some ⟨b, x, none⟩)) 4 = some (.pointer (some ⟨b, x + 12, none⟩)) := rfl
theorem fa54_5 (b x : Nat) : afieldAddr E 54 (.pointer (some ⟨b, x, none⟩)) 5 = some (.pointer (some ⟨b, x + 13, none⟩)) := rfl
theorem fa55_0 (b x : Nat) : afieldAddr E 55 (.pointer (some ⟨b, x, none⟩)) 0 = some (.pointer (some ⟨b, x + 0, none⟩)) := rfl
theorem fa55_1 (b x : Nat) : afieldAddr E 55 (.pointer (some ⟨b, x, none⟩)) 1 = some (.pointer (some ⟨b, x + 1, none⟩)) := rfl
theorem fa55_2 (b x : Nat) : afieldAddr E 55 (.pointer (some ⟨b, x, none⟩)) 2 = some (.pointer (some ⟨b, x + 10, none⟩)) := rfl
theorem fa55_3 (b x : Nat) : afieldAddr E 55 (.pointer (some ⟨b, x, none⟩)) 3 = some (.pointer (some ⟨b, x + 11, none⟩)) := rfl
theorem fa55_4 (b x : Nat) : afieldAddr E 55 (.pointer (some ⟨b, x, none⟩)) 4 = some (.pointer (some ⟨b, x + 12, none⟩)) := rfl
theorem fa55_5 (b x : Nat) : afieldAddr E 55 (.pointer (some ⟨b, x, none⟩)) 5 = some (.pointer (some ⟨b, x + 13, none⟩)) := rfl
theorem fa68_0 (b x : Nat) : afieldAddr E 68 (.pointer (some ⟨b, x, none⟩)) 0 = some (.pointer (some ⟨b, x + 0, none⟩)) := rfl
theorem fa68_1 (b x : Nat) : afieldAddr E 68 (.pointer (some ⟨b, x, none⟩)) 1 = some (.pointer (some ⟨b, x + 1, none⟩)) := rfl
theorem fa69_0 (b x : Nat) : afieldAddr E 69 (.pointer (some ⟨b, x, none⟩)) 0 = some (.pointer (some ⟨b, x + 0, none⟩)) := rfl
theorem fa69_1 (b x : Nat) : afieldAddr E 69 (.pointer (some ⟨b, x, none⟩)) 1 = some (.pointer (some ⟨b, x + 1, none⟩)) := rfl
theorem fa74_0 (b x : Nat) : afieldAddr E 74 (.pointer (some ⟨b, x, none⟩)) 0 = some (.pointer (some ⟨b, x + 0, none⟩)) := rfl
theorem fa74_1 (b x : Nat) : afieldAddr E 74 (.pointer (some ⟨b, x, none⟩)) 1 = some (.pointer (some ⟨b, x + 1, none⟩)) := rfl
theorem fa74_2 (b x : Nat) : afieldAddr E 74 (.pointer (some ⟨b, x, none⟩)) 2 = some (.pointer (some ⟨b, x + 2, none⟩)) := rfl
theorem fa75_0 (b x : Nat) : afieldAddr E 75 (.pointer (some ⟨b, x, none⟩)) 0 = some (.pointer (some ⟨b, x + 0, none⟩)) := rfl
theorem fa75_1 (b x : Nat) : afieldAddr E 75 (.pointer (some ⟨b, x, none⟩)) 1 = some (.pointer (some ⟨b, x + 1, none⟩)) := rfl
theorem fa75_2 (b x : Nat) : afieldAddr E 75 (.pointer (some ⟨b, x, none⟩)) 2 = some (.pointer (some ⟨b, x + 2, none⟩)) := rfl
theorem fa83_0 (b x : Nat) : afieldAddr E 83 (.pointer (some ⟨b, x, none⟩)) 0 = some (.pointer (some ⟨b, x + 0, none⟩)) := rfl
theorem fa83_1 (b x : Nat) : afieldAddr E 83 (.pointer (some ⟨b, x, none⟩)) 1 = some (.pointer (some ⟨b, x + 1, none⟩)) := rfl
theorem fa83_2 (b x : Nat) : afieldAddr E 83 (.pointer (some ⟨b, x, none⟩)) 2 = some (.pointer (some ⟨b, x + 2, none⟩)) := rfl
theorem fa83_3 (b x : Nat) : afieldAddr E 83 (.pointer (some ⟨b, x, none⟩)) 3 = some (.pointer (some ⟨b, x + 3, none⟩)) := rfl
theorem fa84_0 (b x : Nat) : afieldAddr E 84 (.pointer (some ⟨b, x, none⟩)) 0 = some (.pointer (some ⟨b, x + 0, none⟩)) := rfl
theorem fa84_1 (b x : Nat) : afieldAddr E 84 (.pointer (some ⟨b, x, none⟩)) 1 = some (.pointer (some ⟨b, x + 1, none⟩)) := rfl
theorem fa84_2 (b x : Nat) : afieldAddr E 84 (.pointer (some ⟨b, x, none⟩)) 2 = some (.pointer (some ⟨b, x + 2, none⟩)) := rfl
theorem fa84_3 (b x : Nat) : afieldAddr E 84 (.pointer (some ⟨b, x, none⟩)) 3 = some (.pointer (some ⟨b, x + 3, none⟩)) := rfl
theorem fa91_0 (b x : Nat) : afieldAddr E 91 (.pointer (some ⟨b, x, none⟩)) 0 = some (.pointer (some ⟨b, x + 0, none⟩)) := rfl
theorem fa91_1 (b x : Nat) : afieldAddr E 91 (.pointer (some ⟨b, x, none⟩)) 1 = some (.pointer (some ⟨b, x + 1, none⟩)) := rfl
theorem fa91_2 (b x : Nat) : afieldAddr E 91 (.pointer (some ⟨b, x, none⟩)) 2 = some (.pointer (some ⟨b, x + 2, none⟩)) := rfl
theorem fa91_3 (b x : Nat) : afieldAddr E 91 (.pointer (some ⟨b, x, none⟩)) 3 = some (.pointer (some ⟨b, x + 3, none⟩)) := rfl
theorem fa91_4 (b x : Nat) : afieldAddr E 91 (.pointer (some ⟨b, x, none⟩)) 4 = some (.pointer (some ⟨b, x + 4, none⟩)) := rfl
theorem fa92_0 (b x : Nat) : afieldAddr E 92 (.pointer (some ⟨b, x, none⟩)) 0 = some (.pointer (some ⟨b, x + 0, none⟩)) := rfl
theorem fa92_1 (b x : Nat) : afieldAddr E 92 (.pointer (some ⟨b, x, none⟩)) 1 = some (.pointer (some ⟨b, x + 1, none⟩)) := rfl
theorem fa92_2 (b x : Nat) : afieldAddr E 92 (.pointer (some ⟨b, x, none⟩)) 2 = some (.pointer (some ⟨b, x + 2, none⟩)) := rfl
theorem fa92_3 (b x : Nat) : afieldAddr E 92 (.pointer (some ⟨b, x, none⟩)) 3 = some (.pointer (some ⟨b, x + 3, none⟩)) := rfl
theorem fa92_4 (b x : Nat) : afieldAddr E 92 (.pointer (some ⟨b, x, none⟩)) 4 = some (.pointer (some ⟨b, x + 4, none⟩)) := rfl
theorem fa94_0 (b x : Nat) : afieldAddr E 94 (.pointer (some ⟨b, x, none⟩)) 0 = some (.pointer (some ⟨b, x + 0, none⟩)) := rfl
theorem fa94_1 (b x : Nat) : afieldAddr E 94 (.pointer (some ⟨b, x, none⟩)) 1 = some (.pointer (some ⟨b, x + 1, none⟩)) := rfl
theorem fa94_2 (b x : Nat) : afieldAddr E 94 (.pointer (some ⟨b, x, none⟩)) 2 = some (.pointer (some ⟨b, x + 2, none⟩)) := rfl
theorem fa95_0 (b x : Nat) : afieldAddr E 95 (.pointer (some ⟨b, x, none⟩)) 0 = some (.pointer (some ⟨b, x + 0, none⟩)) := rfl
theorem fa95_1 (b x : Nat) : afieldAddr E 95 (.pointer (some ⟨b, x, none⟩)) 1 = some (.pointer (some ⟨b, x + 1, none⟩)) := rfl
theorem fa95_2 (b x : Nat) : afieldAddr E 95 (.pointer (some ⟨b, x, none⟩)) 2 = some (.pointer (some ⟨b, x + 2, none⟩)) := rfl
theorem fa96_0 (b x : Nat) : afieldAddr E 96 (.pointer (some ⟨b, x, none⟩)) 0 = some (.pointer (some ⟨b, x + 0, none⟩)) := rfl
theorem fa96_1 (b x : Nat) : afieldAddr E 96 (.pointer (some ⟨b, x, none⟩)) 1 = some (.pointer (some ⟨b, x + 1, none⟩)) := rfl
theorem fa96_2 (b x : Nat) : afieldAddr E 96 (.pointer (some ⟨b, x, none⟩)) 2 = some (.pointer (some ⟨b, x + 2, none⟩)) := rfl
theorem fa97_0 (b x : Nat) : afieldAddr E 97 (.pointer (some ⟨b, x, none⟩)) 0 = some (.pointer (some ⟨b, x + 0, none⟩)) := rfl
theorem fa97_1 (b x : Nat) : afieldAddr E 97 (.pointer (some ⟨b, x, none⟩)) 1 = some (.pointer (some ⟨b, x + 1, none⟩)) := rfl
theorem fa97_2 (b x : Nat) : afieldAddr E 97 (.pointer (some ⟨b, x, none⟩)) 2 = some (.pointer (some ⟨b, x + 2, none⟩)) := rfl
theorem fa102_0 (b x : Nat) : afieldAddr E 102 (.pointer (some ⟨b, x, none⟩)) 0 = some (.pointer (some ⟨b, x + 0, none⟩)) := rfl
theorem fa102_1 (b x : Nat) : afieldAddr E 102 (.pointer (some ⟨b, x, none⟩)) 1 = some (.pointer (some ⟨b, x + 1, none⟩)) := rfl
theorem fa102_2 (b x : Nat) : afieldAddr E 102 (.pointer (some ⟨b, x, none⟩)) 2 = some (.pointer (some ⟨b, x + 2, none⟩)) := rfl
theorem fa102_3 (b x : Nat) : afieldAddr E 102 (.pointer (some ⟨b, x, none⟩)) 3 = some (.pointer (some ⟨b, x + 3, none⟩)) := rfl
theorem fa103_0 (b x : Nat) : afieldAddr E 103 (.pointer (some ⟨b, x, none⟩)) 0 = some (.pointer (some ⟨b, x + 0, none⟩)) := rfl
theorem fa103_1 (b x : Nat) : afieldAddr E 103 (.pointer (some ⟨b, x, none⟩)) 1 = some (.pointer (some ⟨b, x + 1, none⟩)) := rfl
theorem fa103_2 (b x : Nat) : afieldAddr E 103 (.pointer (some ⟨b, x, none⟩)) 2 = some (.pointer (some ⟨b, x + 2, none⟩)) := rfl
theorem fa103_3 (b x : Nat) : afieldAddr E 103 (.pointer (some ⟨b, x, none⟩)) 3 = some (.pointer (some ⟨b, x + 3, none⟩)) := rfl
theorem fa114_0 (b x : Nat) : afieldAddr E 114 (.pointer (some ⟨b, x, none⟩)) 0 = some (.pointer (some ⟨b, x + 0, none⟩)) := rfl
theorem fa114_1 (b x : Nat) : afieldAddr E 114 (.pointer (some ⟨b, x, none⟩)) 1 = some (.pointer (some ⟨b, x + 1, none⟩)) := rfl
theorem fa114_2 (b x : Nat) : afieldAddr E 114 (.pointer (some ⟨b, x, none⟩)) 2 = some (.pointer (some ⟨b, x + 2, none⟩)) := rfl
theorem fa114_3 (b x : Nat) : afieldAddr E 114 (.pointer (some ⟨b, x, none⟩)) 3 = some (.pointer (some ⟨b, x + 3, none⟩)) := rfl
theorem fa114_4 (b x : Nat) : afieldAddr E 114 (.pointer (some ⟨b, x, none⟩)) 4 = some (.pointer (some ⟨b, x + 4, none⟩)) := rfl
theorem fa114_5 (b x : Nat) : afieldAddr E 114 (.pointer (some ⟨b, x, none⟩)) 5 = some (.pointer (some ⟨b, x + 5, none⟩)) := rfl
theorem fa114_6 (b x : Nat) : afieldAddr E 114 (.pointer (some ⟨b, x, none⟩)) 6 = some (.pointer (some ⟨b, x + 6, none⟩)) := rfl
theorem fa114_7 (b x : Nat) : afieldAddr E 114 (.pointer (some ⟨b, x, none⟩)) 7 = some (.pointer (some ⟨b, x + 7, none⟩)) := rfl
theorem fa114_8 (b x : Nat) : afieldAddr E 114 (.pointer (some ⟨b, x, none⟩)) 8 = some (.pointer (some ⟨b, x + 8, none⟩)) := rfl
theorem fa114_9 (b x : Nat) : afieldAddr E 114 (.pointer (some ⟨b, x, none⟩)) 9 = some (.pointer (some ⟨b, x + 9, none⟩)) := rfl
theorem fa114_10 (b x : Nat) : afieldAddr E 114 (.pointer (some ⟨b, x, none⟩)) 10 = some (.pointer (some ⟨b, x + 10, none⟩)) := rfl
theorem fa115_0 (b x : Nat) : afieldAddr E 115 (.pointer (some ⟨b, x, none⟩)) 0 = some (.pointer (some ⟨b, x + 0, none⟩)) := rfl
theorem fa115_1 (b x : Nat) : afieldAddr E 115 (.pointer (some ⟨b, x, none⟩)) 1 = some (.pointer (some ⟨b, x + 1, none⟩)) := rfl
theorem fa115_2 (b x : Nat) : afieldAddr E 115 (.pointer (some ⟨b, x, none⟩)) 2 = some (.pointer (some ⟨b, x + 2, none⟩)) := rfl
theorem fa115_3 (b x : Nat) : afieldAddr E 115 (.pointer (some ⟨b, x, none⟩)) 3 = some (.pointer (some ⟨b, x + 3, none⟩)) := rfl
theorem fa115_4 (b x : Nat) : afieldAddr E 115 (.pointer (some ⟨b, x, none⟩)) 4 = some (.pointer (some ⟨b, x + 4, none⟩)) := rfl
theorem fa115_5 (b x : Nat) : afieldAddr E 115 (.pointer (some ⟨b, x, none⟩)) 5 = some (.pointer (some ⟨b, x + 5, none⟩)) := rfl
theorem fa115_6 (b x : Nat) : afieldAddr E 115 (.pointer (some ⟨b, x, none⟩)) 6 = some (.pointer (some ⟨b, x + 6, none⟩)) := rfl
theorem fa115_7 (b x : Nat) : afieldAddr E 115 (.pointer (some ⟨b, x, none⟩)) 7 = some (.pointer (some ⟨b, x + 7, none⟩)) := rfl
theorem fa115_8 (b x : Nat) : afieldAddr E 115 (.pointer (some ⟨b, x, none⟩)) 8 = some (.pointer (some ⟨b, x + 8, none⟩)) := rfl
theorem fa115_9 (b x : Nat) : afieldAddr E 115 (.pointer (some ⟨b, x, none⟩)) 9 = some (.pointer (some ⟨b, x + 9, none⟩)) := rfl
theorem fa115_10 (b x : Nat) : afieldAddr E 115 (.pointer (some ⟨b, x, none⟩)) 10 = some (.pointer (some ⟨b, x + 10, none⟩)) := rfl
/-- gosem.cut.init -/
theorem call2 {args : List Value} {H : AHeap} {Q : Value → AHeap → Prop} (hl : args.length ≤ 1) (h : CodeW E (strip [] (bodyOf Try.f2)) (L 1 (ofL args)) H (retQ E [] Q)) : CallW E 2 args H Q :=
  W_callS [] rfl rfl rfl rfl rfl (by kernel_rfl) hl h
/-- towncrier/towncrierlaw05.ReasonIs -/
theorem call3 {args : List Value} {H : AHeap} {Q : Value → AHeap → Prop} (hl : args.length ≤ 29) (h : CodeW E (strip [] (bodyOf Try.f3)) (L 29 (ofL args)) H (retQ E [.tmp 4] Q)) : CallW E 3 args H Q :=
  W_callS [] rfl rfl rfl rfl rfl (by kernel_rfl) hl h
/-- towncrier/towncrierlaw05.ReasonAll -/
theorem call4 {args : List Value} {H : AHeap} {Q : Value → AHeap → Prop} (hl : args.length ≤ 11) (h : CodeW E (strip [] (bodyOf Try.f4)) (L 11 (ofL args)) H (retQ E [.tmp 2] Q)) : CallW E 4 args H Q :=
  W_callS [] rfl rfl rfl rfl rfl (by kernel_rfl) hl h
/-- towncrier/towncrierlaw05.ReasonCloses -/
theorem call5 {args : List Value} {H : AHeap} {Q : Value → AHeap → Prop} (hl : args.length ≤ 21) (h : CodeW E (strip [] (bodyOf Try.f5)) (L 21 (ofL args)) H (retQ E [.tmp 2] Q)) : CallW E 5 args H Q :=
  W_callS [] rfl rfl rfl rfl rfl (by kernel_rfl) hl h
/-- towncrier/towncrierlaw05.ReasonKinds -/
theorem call6 {args : List Value} {H : AHeap} {Q : Value → AHeap → Prop} (hl : args.length ≤ 73) (h : CodeW E (strip [] (bodyOf Try.f6)) (L 73 (ofL args)) H (retQ E [.tmp 2] Q)) : CallW E 6 args H Q :=
  W_callS [] rfl rfl rfl rfl rfl (by kernel_rfl) hl h
/-- towncrier/towncrierlaw24.OutPacket -/
theorem call7 {args : List Value} {H : AHeap} {Q : Value → AHeap → Prop} (hl : args.length ≤ 29) (h : CodeW E (strip [3] (bodyOf Try.f7)) (L 29 (ofL args)) H (retQ E [.tmp 6] Q)) : CallW E 7 args H Q :=
  W_callS [3] rfl rfl rfl rfl rfl (by kernel_rfl) hl h
/-- towncrier/towncrierlaw24.OutPlays -/
theorem call8 {args : List Value} {H : AHeap} {Q : Value → AHeap → Prop} (hl : args.length ≤ 196) (h : CodeW E (strip [23, 29, 30] (bodyOf Try.f8)) (L 196 (ofL args)) H (retQ E [.tmp 2] Q)) : CallW E 8 args H Q :=
  W_callS [23, 29, 30] rfl rfl rfl rfl rfl (by kernel_rfl) hl h
/-- towncrier/towncrierlaw24.OutOnce -/
theorem call9 {args : List Value} {H : AHeap} {Q : Value → AHeap → Prop} (hl : args.length ≤ 127) (h : CodeW E (strip [] (bodyOf Try.f9)) (L 127 (ofL args)) H (retQ E [.tmp 2] Q)) : CallW E 9 args H Q :=
  W_callS [] rfl rfl rfl rfl rfl (by kernel_rfl) hl h
/-- towncrier/reason.Allowed -/
theorem call10 {args : List Value} {H : AHeap} {Q : Value → AHeap → Prop} (hl : args.length ≤ 11) (h : CodeW E (strip [] (bodyOf Try.f10)) (L 11 (ofL args)) H (retQ E [.tmp 4] Q)) : CallW E 10 args H Q :=
  W_callS [] rfl rfl rfl rfl rfl (by kernel_rfl) hl h
/-- towncrier/towncrierref05.Allowed -/
theorem call11 {args : List Value} {H : AHeap} {Q : Value → AHeap → Prop} (hl : args.length ≤ 25) (h : CodeW E (strip [] (bodyOf Try.f11)) (L 25 (ofL args)) H (retQ E [.tmp 4] Q)) : CallW E 11 args H Q :=
  W_callS [] rfl rfl rfl rfl rfl (by kernel_rfl) hl h
/-- towncrier/reason.Bad -/
theorem call12 {args : List Value} {H : AHeap} {Q : Value → AHeap → Prop} (hl : args.length ≤ 9) (h : CodeW E (strip [] (bodyOf Try.f12)) (L 9 (ofL args)) H (retQ E [.tmp 2] Q)) : CallW E 12 args H Q :=
  W_callS [] rfl rfl rfl rfl rfl (by kernel_rfl) hl h
/-- towncrier/towncrierref05.Bad -/
theorem call13 {args : List Value} {H : AHeap} {Q : Value → AHeap → Prop} (hl : args.length ≤ 9) (h : CodeW E (strip [] (bodyOf Try.f13)) (L 9 (ofL args)) H (retQ E [.tmp 2] Q)) : CallW E 13 args H Q :=
  W_callS [] rfl rfl rfl rfl rfl (by kernel_rfl) hl h
/-- towncrier/reason.Close -/
theorem call14 {args : List Value} {H : AHeap} {Q : Value → AHeap → Prop} (hl : args.length ≤ 10) (h : CodeW E (strip [] (bodyOf Try.f14)) (L 10 (ofL args)) H (retQ E [.tmp 2] Q)) : CallW E 14 args H Q :=
  W_callS [] rfl rfl rfl rfl rfl (by kernel_rfl) hl h
/-- towncrier/towncrierref05.Close -/
theorem call15 {args : List Value} {H : AHeap} {Q : Value → AHeap → Prop} (hl : args.length ≤ 10) (h : CodeW E (strip [] (bodyOf Try.f15)) (L 10 (ofL args)) H (retQ E [.tmp 2] Q)) : CallW E 15 args H Q :=
  W_callS [] rfl rfl rfl rfl rfl (by kernel_rfl) hl h
/-- towncrier/towncrierlaw05.awake -/
theorem call16 {args : List Value} {H : AHeap} {Q : Value → AHeap → Prop} (hl : args.length ≤ 26) (h : CodeW E (strip [] (bodyOf Try.f16)) (L 26 (ofL args)) H (retQ E [.tmp 0] Q)) : CallW E 16 args H Q :=
  W_callS [] rfl rfl rfl rfl rfl (by kernel_rfl) hl h
/-- towncrier/towncrierref05.SameInts -/
theorem call17 {args : List Value} {H : AHeap} {Q : Value → AHeap → Prop} (hl : args.length ≤ 32) (h : CodeW E (strip [] (bodyOf Try.f17)) (L 32 (ofL args)) H (retQ E [.tmp 4] Q)) : CallW E 17 args H Q :=
  W_callS [] rfl rfl rfl rfl rfl (by kernel_rfl) hl h
/-- towncrier/reason.All -/
theorem call18 {args : List Value} {H : AHeap} {Q : Value → AHeap → Prop} (hl : args.length ≤ 17) (h : CodeW E (strip [] (bodyOf Try.f18)) (L 17 (ofL args)) H (retQ E [.tmp 2] Q)) : CallW E 18 args H Q :=
  W_callS [] rfl rfl rfl rfl rfl (by kernel_rfl) hl h
/-- towncrier/towncrierref05.All -/
theorem call19 {args : List Value} {H : AHeap} {Q : Value → AHeap → Prop} (hl : args.length ≤ 17) (h : CodeW E (strip [] (bodyOf Try.f19)) (L 17 (ofL args)) H (retQ E [.tmp 2] Q)) : CallW E 19 args H Q :=
  W_callS [] rfl rfl rfl rfl rfl (by kernel_rfl) hl h
/-- towncrier/towncrierref19.Small -/
theorem call20 {args : List Value} {H : AHeap} {Q : Value → AHeap → Prop} (hl : args.length ≤ 30) (h : CodeW E (strip [] (bodyOf Try.f20)) (L 30 (ofL args)) H (retQ E [.tmp 2] Q)) : CallW E 20 args H Q :=
  W_callS [] rfl rfl rfl rfl rfl (by kernel_rfl) hl h
/-- towncrier/towncrierref08.Same -/
theorem call22 {args : List Value} {H : AHeap} {Q : Value → AHeap → Prop} (hl : args.length ≤ 148) (h : CodeW E (strip [] (bodyOf Try.f22)) (L 148 (ofL args)) H (retQ E [.tmp 4] Q)) : CallW E 22 args H Q :=
  W_callS [] rfl rfl rfl rfl rfl (by kernel_rfl) hl h
/-- towncrier/outq.Packet -/
theorem call23 {args : List Value} {H : AHeap} {Q : Value → AHeap → Prop} (hl : args.length ≤ 22) (h : CodeW E (strip [1] (bodyOf Try.f23)) (L 22 (ofL args)) H (retQ E [.cell 8 40] Q)) : CallW E 23 args H Q :=
  W_callS [1] rfl rfl rfl rfl rfl (by kernel_rfl) hl h
/-- towncrier/towncrierref24.Packet -/
theorem call24 {args : List Value} {H : AHeap} {Q : Value → AHeap → Prop} (hl : args.length ≤ 21) (h : CodeW E (strip [] (bodyOf Try.f24)) (L 21 (ofL args)) H (retQ E [.cell 8 40] Q)) : CallW E 24 args H Q :=
  W_callS [] rfl rfl rfl rfl rfl (by kernel_rfl) hl h
/-- towncrier/towncrierref24.Few -/
theorem call25 {args : List Value} {H : AHeap} {Q : Value → AHeap → Prop} (hl : args.length ≤ 24) (h : CodeW E (strip [] (bodyOf Try.f25)) (L 24 (ofL args)) H (retQ E [.tmp 2] Q)) : CallW E 25 args H Q :=
  W_callS [] rfl rfl rfl rfl rfl (by kernel_rfl) hl h
/-- towncrier/outq.New -/
theorem call26 {args : List Value} {H : AHeap} {Q : Value → AHeap → Prop} (hl : args.length ≤ 4) (h : CodeW E (strip [] (bodyOf Try.f26)) (L 4 (ofL args)) H (retQ E [.tmp 0] Q)) : CallW E 26 args H Q :=
  W_callS [] rfl rfl rfl rfl rfl (by kernel_rfl) hl h
/-- towncrier/towncrierref24.New -/
theorem call27 {args : List Value} {H : AHeap} {Q : Value → AHeap → Prop} (hl : args.length ≤ 4) (h : CodeW E (strip [] (bodyOf Try.f27)) (L 4 (ofL args)) H (retQ E [.tmp 0] Q)) : CallW E 27 args H Q :=
  W_callS [] rfl rfl rfl rfl rfl (by kernel_rfl) hl h
/-- (*towncrier/outq.Out).Send -/
theorem call28 {args : List Value} {H : AHeap} {Q : Value → AHeap → Prop} (hl : args.length ≤ 48) (h : CodeW E (strip [] (bodyOf Try.f28)) (L 48 (ofL args)) H (retQ E [.tmp 6, .tmp 7] Q)) : CallW E 28 args H Q :=
  W_callS [] rfl rfl rfl rfl rfl (by kernel_rfl) hl h
/-- (*towncrier/towncrierref24.Out).Send -/
theorem call29 {args : List Value} {H : AHeap} {Q : Value → AHeap → Prop} (hl : args.length ≤ 40) (h : CodeW E (strip [] (bodyOf Try.f29)) (L 40 (ofL args)) H (retQ E [.tmp 6, .tmp 7] Q)) : CallW E 29 args H Q :=
  W_callS [] rfl rfl rfl rfl rfl (by kernel_rfl) hl h
/-- (*towncrier/outq.Out).Ack -/
theorem call30 {args : List Value} {H : AHeap} {Q : Value → AHeap → Prop} (hl : args.length ≤ 73) (h : CodeW E (strip [1] (bodyOf Try.f30)) (L 73 (ofL args)) H (retQ E [.tmp 4, .cell 5 31] Q)) : CallW E 30 args H Q :=
  W_callS [1] rfl rfl rfl rfl rfl (by kernel_rfl) hl h
/-- towncrier/towncrierlaw24.packet -/
theorem call31 {args : List Value} {H : AHeap} {Q : Value → AHeap → Prop} (hl : args.length ≤ 10) (h : CodeW E (strip [] (bodyOf Try.f31)) (L 10 (ofL args)) H (retQ E [.cell 2 40] Q)) : CallW E 31 args H Q :=
  W_callS [] rfl rfl rfl rfl rfl (by kernel_rfl) hl h
/-- (*towncrier/towncrierref24.Out).Ack -/
theorem call32 {args : List Value} {H : AHeap} {Q : Value → AHeap → Prop} (hl : args.length ≤ 75) (h : CodeW E (strip [] (bodyOf Try.f32)) (L 75 (ofL args)) H (retQ E [.tmp 4, .cell 5 31] Q)) : CallW E 32 args H Q :=
  W_callS [] rfl rfl rfl rfl rfl (by kernel_rfl) hl h
/-- towncrier/towncrierref19.SameMsg -/
theorem call33 {args : List Value} {H : AHeap} {Q : Value → AHeap → Prop} (hl : args.length ≤ 66) (h : CodeW E (strip [] (bodyOf Try.f33)) (L 66 (ofL args)) H (retQ E [.tmp 4] Q)) : CallW E 33 args H Q :=
  W_callS [] rfl rfl rfl rfl rfl (by kernel_rfl) hl h
/-- towncrier/towncrierref19.Same -/
theorem call34 {args : List Value} {H : AHeap} {Q : Value → AHeap → Prop} (hl : args.length ≤ 33) (h : CodeW E (strip [] (bodyOf Try.f34)) (L 33 (ofL args)) H (retQ E [.tmp 4] Q)) : CallW E 34 args H Q :=
  W_callS [] rfl rfl rfl rfl rfl (by kernel_rfl) hl h
/-- (*towncrier/outq.Out).Group -/
theorem call35 {args : List Value} {H : AHeap} {Q : Value → AHeap → Prop} (hl : args.length ≤ 37) (h : CodeW E (strip [] (bodyOf Try.f35)) (L 37 (ofL args)) H (retQ E [.tmp 2] Q)) : CallW E 35 args H Q :=
  W_callS [] rfl rfl rfl rfl rfl (by kernel_rfl) hl h
/-- (*towncrier/towncrierref24.Out).Group -/
theorem call36 {args : List Value} {H : AHeap} {Q : Value → AHeap → Prop} (hl : args.length ≤ 53) (h : CodeW E (strip [] (bodyOf Try.f36)) (L 53 (ofL args)) H (retQ E [.tmp 2] Q)) : CallW E 36 args H Q :=
  W_callS [] rfl rfl rfl rfl rfl (by kernel_rfl) hl h
/-- towncrier/towncrierref24.Same -/
theorem call37 {args : List Value} {H : AHeap} {Q : Value → AHeap → Prop} (hl : args.length ≤ 61) (h : CodeW E (strip [] (bodyOf Try.f37)) (L 61 (ofL args)) H (retQ E [.tmp 4] Q)) : CallW E 37 args H Q :=
  W_callS [] rfl rfl rfl rfl rfl (by kernel_rfl) hl h
/-- (*towncrier/outq.Out).All -/
theorem call38 {args : List Value} {H : AHeap} {Q : Value → AHeap → Prop} (hl : args.length ≤ 10) (h : CodeW E (strip [] (bodyOf Try.f38)) (L 10 (ofL args)) H (retQ E [.tmp 2] Q)) : CallW E 38 args H Q :=
  W_callS [] rfl rfl rfl rfl rfl (by kernel_rfl) hl h
/-- (*towncrier/outq.Out).Len -/
theorem call39 {args : List Value} {H : AHeap} {Q : Value → AHeap → Prop} (hl : args.length ≤ 10) (h : CodeW E (strip [] (bodyOf Try.f39)) (L 10 (ofL args)) H (retQ E [.tmp 2] Q)) : CallW E 39 args H Q :=
  W_callS [] rfl rfl rfl rfl rfl (by kernel_rfl) hl h
/-- towncrier/towncrierref15.SameAll -/
theorem call40 {args : List Value} {H : AHeap} {Q : Value → AHeap → Prop} (hl : args.length ≤ 33) (h : CodeW E (strip [] (bodyOf Try.f40)) (L 33 (ofL args)) H (retQ E [.tmp 4] Q)) : CallW E 40 args H Q :=
  W_callS [] rfl rfl rfl rfl rfl (by kernel_rfl) hl h
/-- (*towncrier/outq.Out).Again -/
theorem call41 {args : List Value} {H : AHeap} {Q : Value → AHeap → Prop} (hl : args.length ≤ 34) (h : CodeW E (strip [] (bodyOf Try.f41)) (L 34 (ofL args)) H (retQ E [.tmp 2] Q)) : CallW E 41 args H Q :=
  W_callS [] rfl rfl rfl rfl rfl (by kernel_rfl) hl h
/-- (*towncrier/towncrierref24.Out).Again -/
theorem call42 {args : List Value} {H : AHeap} {Q : Value → AHeap → Prop} (hl : args.length ≤ 42) (h : CodeW E (strip [] (bodyOf Try.f42)) (L 42 (ofL args)) H (retQ E [.tmp 2] Q)) : CallW E 42 args H Q :=
  W_callS [] rfl rfl rfl rfl rfl (by kernel_rfl) hl h
/-- towncrier/reason.groups -/
theorem call43 {args : List Value} {H : AHeap} {Q : Value → AHeap → Prop} (hl : args.length ≤ 65) (h : CodeW E (strip [] (bodyOf Try.f43)) (L 65 (ofL args)) H (retQ E [.tmp 2] Q)) : CallW E 43 args H Q :=
  W_callS [] rfl rfl rfl rfl rfl (by kernel_rfl) hl h
/-- towncrier/reason.group -/
theorem call44 {args : List Value} {H : AHeap} {Q : Value → AHeap → Prop} (hl : args.length ≤ 20) (h : CodeW E (strip [] (bodyOf Try.f44)) (L 20 (ofL args)) H (retQ E [.tmp 2] Q)) : CallW E 44 args H Q :=
  W_callS [] rfl rfl rfl rfl rfl (by kernel_rfl) hl h
/-- towncrier/towncrierref05.Groups -/
theorem call45 {args : List Value} {H : AHeap} {Q : Value → AHeap → Prop} (hl : args.length ≤ 63) (h : CodeW E (strip [] (bodyOf Try.f45)) (L 63 (ofL args)) H (retQ E [.tmp 2] Q)) : CallW E 45 args H Q :=
  W_callS [] rfl rfl rfl rfl rfl (by kernel_rfl) hl h
/-- towncrier/towncrierref05.Letter -/
theorem call46 {args : List Value} {H : AHeap} {Q : Value → AHeap → Prop} (hl : args.length ≤ 13) (h : CodeW E (strip [] (bodyOf Try.f46)) (L 13 (ofL args)) H (retQ E [.tmp 2] Q)) : CallW E 46 args H Q :=
  W_callS [] rfl rfl rfl rfl rfl (by kernel_rfl) hl h
/-- towncrier/towncrierref06.Few -/
theorem call47 {args : List Value} {H : AHeap} {Q : Value → AHeap → Prop} (hl : args.length ≤ 33) (h : CodeW E (strip [] (bodyOf Try.f47)) (L 33 (ofL args)) H (retQ E [.tmp 2] Q)) : CallW E 47 args H Q :=
  W_callS [] rfl rfl rfl rfl rfl (by kernel_rfl) hl h
/-- towncrier/towncrierref06.Same -/
theorem call48 {args : List Value} {H : AHeap} {Q : Value → AHeap → Prop} (hl : args.length ≤ 32) (h : CodeW E (strip [] (bodyOf Try.f48)) (L 32 (ofL args)) H (retQ E [.tmp 4] Q)) : CallW E 48 args H Q :=
  W_callS [] rfl rfl rfl rfl rfl (by kernel_rfl) hl h
/-- towncrier/towncrierref08.SameWill -/
theorem call49 {args : List Value} {H : AHeap} {Q : Value → AHeap → Prop} (hl : args.length ≤ 45) (h : CodeW E (strip [] (bodyOf Try.f49)) (L 45 (ofL args)) H (retQ E [.tmp 4] Q)) : CallW E 49 args H Q :=
  W_callS [] rfl rfl rfl rfl rfl (by kernel_rfl) hl h
/-- towncrier/towncrierref08.SameSubs -/
theorem call50 {args : List Value} {H : AHeap} {Q : Value → AHeap → Prop} (hl : args.length ≤ 32) (h : CodeW E (strip [] (bodyOf Try.f50)) (L 32 (ofL args)) H (retQ E [.tmp 4] Q)) : CallW E 50 args H Q :=
  W_callS [] rfl rfl rfl rfl rfl (by kernel_rfl) hl h
/-- towncrier/towncrierref08.SameTexts -/
theorem call51 {args : List Value} {H : AHeap} {Q : Value → AHeap → Prop} (hl : args.length ≤ 32) (h : CodeW E (strip [] (bodyOf Try.f51)) (L 32 (ofL args)) H (retQ E [.tmp 4] Q)) : CallW E 51 args H Q :=
  W_callS [] rfl rfl rfl rfl rfl (by kernel_rfl) hl h
/-- slices.Clone[[]towncrier/api.Prop,towncrier/api.Prop] -/
theorem call52 {args : List Value} {H : AHeap} {Q : Value → AHeap → Prop} (hl : args.length ≤ 8) (h : CodeW E (strip [] (bodyOf Try.f52)) (L 8 (ofL args)) H (retQ E [.tmp 2] Q)) : CallW E 52 args H Q :=
  W_callS [] rfl rfl rfl rfl rfl (by kernel_rfl) hl h
/-- towncrier/pids.New -/
theorem call53 {args : List Value} {H : AHeap} {Q : Value → AHeap → Prop} (hl : args.length ≤ 9) (h : CodeW E (strip [] (bodyOf Try.f53)) (L 9 (ofL args)) H (retQ E [.tmp 2] Q)) : CallW E 53 args H Q :=
  W_callS [] rfl rfl rfl rfl rfl (by kernel_rfl) hl h
/-- towncrier/towncrierref23.New -/
theorem call54 {args : List Value} {H : AHeap} {Q : Value → AHeap → Prop} (hl : args.length ≤ 8) (h : CodeW E (strip [] (bodyOf Try.f54)) (L 8 (ofL args)) H (retQ E [.tmp 2] Q)) : CallW E 54 args H Q :=
  W_callS [] rfl rfl rfl rfl rfl (by kernel_rfl) hl h
/-- (*towncrier/pids.Pids).Next -/
theorem call55 {args : List Value} {H : AHeap} {Q : Value → AHeap → Prop} (hl : args.length ≤ 41) (h : CodeW E (strip [] (bodyOf Try.f55)) (L 41 (ofL args)) H (retQ E [.tmp 2, .tmp 3] Q)) : CallW E 55 args H Q :=
  W_callS [] rfl rfl rfl rfl rfl (by kernel_rfl) hl h
/-- (*towncrier/towncrierref23.Pids).Next -/
theorem call56 {args : List Value} {H : AHeap} {Q : Value → AHeap → Prop} (hl : args.length ≤ 55) (h : CodeW E (strip [] (bodyOf Try.f56)) (L 55 (ofL args)) H (retQ E [.tmp 2, .tmp 3] Q)) : CallW E 56 args H Q :=
  W_callS [] rfl rfl rfl rfl rfl (by kernel_rfl) hl h
/-- (*towncrier/outq.Out).find -/
theorem call57 {args : List Value} {H : AHeap} {Q : Value → AHeap → Prop} (hl : args.length ≤ 13) (h : CodeW E (strip [] (bodyOf Try.f57)) (L 13 (ofL args)) H (retQ E [.tmp 4] Q)) : CallW E 57 args H Q :=
  W_callS [] rfl rfl rfl rfl rfl (by kernel_rfl) hl h
/-- towncrier/outq.awaits -/
theorem call58 {args : List Value} {H : AHeap} {Q : Value → AHeap → Prop} (hl : args.length ≤ 10) (h : CodeW E (strip [] (bodyOf Try.f58)) (L 10 (ofL args)) H (retQ E [.tmp 2] Q)) : CallW E 58 args H Q :=
  W_callS [] rfl rfl rfl rfl rfl (by kernel_rfl) hl h
/-- (*towncrier/outq.Out).end -/
theorem call59 {args : List Value} {H : AHeap} {Q : Value → AHeap → Prop} (hl : args.length ≤ 29) (h : CodeW E (strip [] (bodyOf Try.f59)) (L 29 (ofL args)) H (retQ E [] Q)) : CallW E 59 args H Q :=
  W_callS [] rfl rfl rfl rfl rfl (by kernel_rfl) hl h
/-- (*towncrier/towncrierref24.Out).set -/
theorem call60 {args : List Value} {H : AHeap} {Q : Value → AHeap → Prop} (hl : args.length ≤ 47) (h : CodeW E (strip [] (bodyOf Try.f60)) (L 47 (ofL args)) H (retQ E [] Q)) : CallW E 60 args H Q :=
  W_callS [] rfl rfl rfl rfl rfl (by kernel_rfl) hl h
/-- (*towncrier/towncrierref23.Pids).Free -/
theorem call61 {args : List Value} {H : AHeap} {Q : Value → AHeap → Prop} (hl : args.length ≤ 49) (h : CodeW E (strip [] (bodyOf Try.f61)) (L 49 (ofL args)) H (retQ E [.tmp 4] Q)) : CallW E 61 args H Q :=
  W_callS [] rfl rfl rfl rfl rfl (by kernel_rfl) hl h
/-- slices.Clone[[]towncrier/api.Flight,towncrier/api.Flight] -/
theorem call62 {args : List Value} {H : AHeap} {Q : Value → AHeap → Prop} (hl : args.length ≤ 8) (h : CodeW E (strip [] (bodyOf Try.f62)) (L 8 (ofL args)) H (retQ E [.tmp 2] Q)) : CallW E 62 args H Q :=
  W_callS [] rfl rfl rfl rfl rfl (by kernel_rfl) hl h
/-- towncrier/reason.good -/
theorem call63 {args : List Value} {H : AHeap} {Q : Value → AHeap → Prop} (hl : args.length ≤ 18) (h : CodeW E (strip [] (bodyOf Try.f63)) (L 18 (ofL args)) H (retQ E [.tmp 2] Q)) : CallW E 63 args H Q :=
  W_callS [] rfl rfl rfl rfl rfl (by kernel_rfl) hl h
/-- (*towncrier/pids.Pids).Use -/
theorem call64 {args : List Value} {H : AHeap} {Q : Value → AHeap → Prop} (hl : args.length ≤ 32) (h : CodeW E (strip [] (bodyOf Try.f64)) (L 32 (ofL args)) H (retQ E [.tmp 4] Q)) : CallW E 64 args H Q :=
  W_callS [] rfl rfl rfl rfl rfl (by kernel_rfl) hl h
/-- (*towncrier/towncrierref23.Pids).Is -/
theorem call65 {args : List Value} {H : AHeap} {Q : Value → AHeap → Prop} (hl : args.length ≤ 24) (h : CodeW E (strip [] (bodyOf Try.f65)) (L 24 (ofL args)) H (retQ E [.tmp 4] Q)) : CallW E 65 args H Q :=
  W_callS [] rfl rfl rfl rfl rfl (by kernel_rfl) hl h
/-- slices.IndexFunc[[]towncrier/api.Flight,towncrier/api.Flight] -/
theorem call66 {args : List Value} {H : AHeap} {Q : Value → AHeap → Prop} (hl : args.length ≤ 19) (h : CodeW E (strip [] (bodyOf Try.f66)) (L 19 (ofL args)) H (retQ E [.tmp 4] Q)) : CallW E 66 args H Q :=
  W_callS [] rfl rfl rfl rfl rfl (by kernel_rfl) hl h
/-- (*towncrier/outq.Out).find$1 -/
theorem call67 {args : List Value} {H : AHeap} {Q : Value → AHeap → Prop} (hl : args.length ≤ 8) (h : CodeW E (strip [] (bodyOf Try.f67)) (L 8 (ofL args)) H (retQ E [.tmp 3] Q)) : CallW E 67 args H Q :=
  W_callS [] rfl rfl rfl rfl rfl (by kernel_rfl) hl h
/-- (*towncrier/pids.Pids).Free -/
theorem call68 {args : List Value} {H : AHeap} {Q : Value → AHeap → Prop} (hl : args.length ≤ 16) (h : CodeW E (strip [] (bodyOf Try.f68)) (L 16 (ofL args)) H (retQ E [.tmp 4] Q)) : CallW E 68 args H Q :=
  W_callS [] rfl rfl rfl rfl rfl (by kernel_rfl) hl h
/-- slices.Delete[[]towncrier/api.Flight,towncrier/api.Flight] -/
theorem call69 {args : List Value} {H : AHeap} {Q : Value → AHeap → Prop} (hl : args.length ≤ 33) (h : CodeW E (strip [] (bodyOf Try.f69)) (L 33 (ofL args)) H (retQ E [.tmp 6] Q)) : CallW E 69 args H Q :=
  W_callS [] rfl rfl rfl rfl rfl (by kernel_rfl) hl h
/-- (*towncrier/pids.Pids).Is -/
theorem call70 {args : List Value} {H : AHeap} {Q : Value → AHeap → Prop} (hl : args.length ≤ 15) (h : CodeW E (strip [] (bodyOf Try.f70)) (L 15 (ofL args)) H (retQ E [.tmp 4] Q)) : CallW E 70 args H Q :=
  W_callS [] rfl rfl rfl rfl rfl (by kernel_rfl) hl h
end Go.Proofs.Ytlmcjfnignbdoaa.Abs
