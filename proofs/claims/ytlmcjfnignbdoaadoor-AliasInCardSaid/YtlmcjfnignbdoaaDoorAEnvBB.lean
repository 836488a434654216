/-
  A part of a law's proof.
-/
import Derived.Test.YtlmcjfnignbdoaaDoorAEnvA
import Derived.Test.YtlmcjfnignbdoaaDoorAMd
namespace Go.Proofs.YtlmcjfnignbdoaaDoor.AbsB
open Go AbsYtlmcjfnignbdoaaDoor Abs
set_option maxRecDepth 100000
def nb : Nat := 15
def S : List Sent := [⟨ "towncrier/api.ErrShort", 2, [116, 111, 111, 32, 102, 101, 119, 32, 98, 121, 116, 101, 115]⟩, ⟨ "towncrier/api.ErrMalformed", 3, [109, 97, 108, 102, 111, 114, 109, 101, 100]⟩, ⟨ "towncrier/api.ErrProtocol", 0, [97, 103, 97, 105, 110, 115, 116, 32, 116, 104, 101, 32, 112, 114, 111, 116, 111, 99, 111, 108]⟩, ⟨ "towncrier/api.ErrTooLarge", 1, [116, 111, 111, 32, 108, 97, 114, 103, 101]⟩, ⟨ "towncrier/api.ErrQuota", 4, [110, 111, 32, 114, 111, 111, 109]⟩, ⟨ "towncrier/api.ErrState", 5, [110, 111, 116, 32, 110, 111, 119]⟩, ⟨ "towncrier/api.ErrArgument", 6, [110, 111, 32, 115, 117, 99, 104, 32, 116, 104, 105, 110, 103]⟩]
def B : AHeap := baseHeap ng 126 S handle
def isT : Option (Value × AHeap) → Bool
  | some (.bool true, _) => true
  | _ => false
theorem isT_some {o : Option (Value × AHeap)} (h : isT o = true) : ∃ H, o = some (.bool true, H) := by
  unfold isT at h
  split at h
  · exact ⟨_, rfl⟩
  · cases h
noncomputable def E1 : Env := (E0 nb).errs ec
theorem env1_ok : EnvOk E1 := EnvOk.errs (env0_ok nb) ec_ok
theorem awake13 : isT (callF E1 (exec E1 300) 13 [] B) = true := by kernel_rfl
theorem awake19 : isT (callF E1 (exec E1 300) 19 [] B) = true := by kernel_rfl
theorem awake30 : isT (callF E1 (exec E1 300) 30 [] B) = true := by kernel_rfl
noncomputable def E : Env := E1.worked B [(13, .bool true), (19, .bool true), (30, .bool true)]
theorem env_ok : EnvOk E := EnvOk.with env1_ok (by kernel_rfl) _ (by
  intro p hp
  simp only [List.mem_cons, List.not_mem_nil, or_false] at hp
  rcases hp with rfl | rfl | rfl
  · obtain ⟨H, h⟩ := isT_some awake13; exact ⟨rfl, 300, H, h⟩
  · obtain ⟨H, h⟩ := isT_some awake19; exact ⟨rfl, 300, H, h⟩
  · obtain ⟨H, h⟩ := isT_some awake30; exact ⟨rfl, 300, H, h⟩)
theorem base_same {H : AHeap} (h : Ext B H) : sameBase B nb H = true := by
  simp only [sameBase, List.all_eq_true, List.mem_range]
  intro b hb
  exact oeq_of (h.get b (by have : B.size = nb := by kernel_rfl
                            omega))
theorem spec13 {H : AHeap} {Q : Value → AHeap → Prop} (hB : Ext B H) (h : Q (.bool true) H) : CallW E 13 [] H Q := w_special (g := fun args H => if args.isEmpty && sameBase B nb H then some (.bool true, H) else none) rfl (by rw [base_same hB]; rfl) h
theorem spec19 {H : AHeap} {Q : Value → AHeap → Prop} (hB : Ext B H) (h : Q (.bool true) H) : CallW E 19 [] H Q := w_special (g := fun args H => if args.isEmpty && sameBase B nb H then some (.bool true, H) else none) rfl (by rw [base_same hB]; rfl) h
theorem spec30 {H : AHeap} {Q : Value → AHeap → Prop} (hB : Ext B H) (h : Q (.bool true) H) : CallW E 30 [] H Q := w_special (g := fun args H => if args.isEmpty && sameBase B nb H then some (.bool true, H) else none) rfl (by rw [base_same hB]; rfl) h
theorem ty0 : E.ty.get 0 = some ⟨.other, 1, 0, none, true⟩ := rfl
theorem ty1 : E.ty.get 1 = some ⟨.func, 1, 8, some [.func], true⟩ := rfl
theorem ty2 : E.ty.get 2 = some ⟨(.int .i64), 1, 8, some [.int .i64 0], true⟩ := rfl
theorem ty3 : E.ty.get 3 = some ⟨(.int .i64), 1, 8, some [.int .i64 0], true⟩ := rfl
theorem ty4 : E.ty.get 4 = some ⟨.bool, 1, 1, some [.bool false], true⟩ := rfl
theorem ty5 : E.ty.get 5 = some ⟨(.int .u8), 1, 1, some [.int .u8 0], true⟩ := rfl
theorem ty6 : E.ty.get 6 = some ⟨(.int .u8), 1, 1, some [.int .u8 0], true⟩ := rfl
theorem ty7 : E.ty.get 7 = some ⟨(.struct [(0, 2, false), (1, 3, false), (2, 4, false), (3, 6, false)]), 4, 24, some [.int .i64 0, .int .i64 0, .bool false, .int .u8 0], true⟩ := rfl
theorem ty8 : E.ty.get 8 = some ⟨(.struct [(0, 2, false), (1, 3, false), (2, 4, false), (3, 6, false)]), 4, 24, some [.int .i64 0, .int .i64 0, .bool false, .int .u8 0], true⟩ := rfl
theorem ty9 : E.ty.get 9 = some ⟨.string, 1, 16, some [.str], true⟩ := rfl
theorem ty10 : E.ty.get 10 = some ⟨.string, 1, 16, some [.str], true⟩ := rfl
theorem ty11 : E.ty.get 11 = some ⟨.string, 1, 16, some [.str], true⟩ := rfl
theorem ty12 : E.ty.get 12 = some ⟨(.int .u64), 1, 8, some [.int .u64 0], true⟩ := rfl
theorem ty13 : E.ty.get 13 = some ⟨(.struct [(0, 9, false), (1, 12, false)]), 2, 24, some [.str, .int .u64 0], false⟩ := rfl
theorem ty14 : E.ty.get 14 = some ⟨(.struct [(0, 9, false), (1, 12, false)]), 2, 24, some [.str, .int .u64 0], false⟩ := rfl
theorem ty15 : E.ty.get 15 = some ⟨(.ptr 129), 1, 8, some [.ptr], true⟩ := rfl
theorem ty16 : E.ty.get 16 = some ⟨(.ptr 132), 1, 8, some [.ptr], true⟩ := rfl
theorem ty17 : E.ty.get 17 = some ⟨(.ptr 142), 1, 8, some [.ptr], true⟩ := rfl
theorem ty18 : E.ty.get 18 = some ⟨(.struct [(0, 17, false)]), 1, 8, some [.ptr], false⟩ := rfl
theorem ty19 : E.ty.get 19 = some ⟨(.struct [(0, 17, false)]), 1, 8, some [.ptr], false⟩ := rfl
theorem ty20 : E.ty.get 20 = some ⟨(.iface true), 1, 16, some [.iface], true⟩ := rfl
theorem ty21 : E.ty.get 21 = some ⟨(.int .i32), 1, 4, some [.int .i32 0], true⟩ := rfl
theorem ty22 : E.ty.get 22 = some ⟨(.slice 9), 1, 24, some [.slice], true⟩ := rfl
theorem ty23 : E.ty.get 23 = some ⟨.func, 1, 8, some [.func], true⟩ := rfl
theorem ty24 : E.ty.get 24 = some ⟨.func, 1, 8, some [.func], true⟩ := rfl
theorem ty25 : E.ty.get 25 = some ⟨(.ptr 31), 1, 8, some [.ptr], true⟩ := rfl
theorem ty26 : E.ty.get 26 = some ⟨.func, 1, 8, some [.func], true⟩ := rfl
theorem ty27 : E.ty.get 27 = some ⟨(.ptr 29), 1, 8, some [.ptr], true⟩ := rfl
theorem ty28 : E.ty.get 28 = some ⟨(.struct [(0, 3, false), (1, 22, false)]), 2, 32, some [.int .i64 0, .slice], true⟩ := rfl
theorem ty29 : E.ty.get 29 = some ⟨(.struct [(0, 3, false), (1, 22, false)]), 2, 32, some [.int .i64 0, .slice], true⟩ := rfl
theorem ty30 : E.ty.get 30 = some ⟨(.struct [(0, 3, false), (1, 22, false)]), 2, 32, some [.int .i64 0, .slice], true⟩ := rfl
theorem ty31 : E.ty.get 31 = some ⟨(.struct [(0, 3, false), (1, 22, false)]), 2, 32, some [.int .i64 0, .slice], true⟩ := rfl
theorem ty32 : E.ty.get 32 = some ⟨(.slice 25), 1, 24, some [.slice], true⟩ := rfl
theorem ty33 : E.ty.get 33 = some ⟨.other, 1, 0, none, true⟩ := rfl
theorem ty34 : E.ty.get 34 = some ⟨.func, 1, 8, some [.func], true⟩ := rfl
theorem ty35 : E.ty.get 35 = some ⟨.func, 1, 8, some [.func], true⟩ := rfl
theorem ty36 : E.ty.get 36 = some ⟨(.ptr 63), 1, 8, some [.ptr], true⟩ := rfl
theorem ty37 : E.ty.get 37 = some ⟨.func, 1, 8, some [.func], true⟩ := rfl
theorem ty38 : E.ty.get 38 = some ⟨(.iface false), 1, 16, some [.iface], false⟩ := rfl
theorem ty39 : E.ty.get 39 = some ⟨(.iface false), 1, 16, some [.iface], false⟩ := rfl
theorem ty40 : E.ty.get 40 = some ⟨.other, 1, 0, none, true⟩ := rfl
theorem ty41 : E.ty.get 41 = some ⟨.func, 1, 8, some [.func], true⟩ := rfl
theorem ty42 : E.ty.get 42 = some ⟨.func, 1, 8, some [.func], true⟩ := rfl
theorem ty43 : E.ty.get 43 = some ⟨.other, 1, 0, none, true⟩ := rfl
theorem ty44 : E.ty.get 44 = some ⟨.func, 1, 8, some [.func], true⟩ := rfl
theorem ty45 : E.ty.get 45 = some ⟨.func, 1, 8, some [.func], true⟩ := rfl
theorem ty46 : E.ty.get 46 = some ⟨.other, 1, 0, none, true⟩ := rfl
theorem ty47 : E.ty.get 47 = some ⟨.func, 1, 8, some [.func], true⟩ := rfl
theorem ty48 : E.ty.get 48 = some ⟨(.int .i64), 1, 8, some [.int .i64 0], true⟩ := rfl
theorem ty49 : E.ty.get 49 = some ⟨.func, 1, 8, some [.func], true⟩ := rfl
theorem ty50 : E.ty.get 50 = some ⟨.func, 1, 8, some [.func], true⟩ := rfl
theorem ty51 : E.ty.get 51 = some ⟨.func, 1, 8, some [.func], true⟩ := rfl
theorem ty52 : E.ty.get 52 = some ⟨.func, 1, 8, some [.func], true⟩ := rfl
theorem ty53 : E.ty.get 53 = some ⟨.other, 1, 0, none, true⟩ := rfl
theorem ty54 : E.ty.get 54 = some ⟨.func, 1, 8, some [.func], true⟩ := rfl
theorem ty55 : E.ty.get 55 = some ⟨.func, 1, 8, some [.func], true⟩ := rfl
theorem ty56 : E.ty.get 56 = some ⟨(.slice 3), 1, 24, some [.slice], true⟩ := rfl
theorem ty57 : E.ty.get 57 = some ⟨(.ptr 60), 1, 8, some [.ptr], true⟩ := rfl
theorem ty58 : E.ty.get 58 = some ⟨(.slice 90), 1, 24, some [.slice], true⟩ := rfl
theorem ty59 : E.ty.get 59 = some ⟨(.struct [(0, 3, false), (1, 58, false)]), 2, 32, some [.int .i64 0, .slice], true⟩ := rfl
theorem ty60 : E.ty.get 60 = some ⟨(.struct [(0, 3, false), (1, 58, false)]), 2, 32, some [.int .i64 0, .slice], true⟩ := rfl
theorem ty61 : E.ty.get 61 = some ⟨(.map 3 9), 1, 8, some [.map], true⟩ := rfl
theorem ty62 : E.ty.get 62 = some ⟨(.struct [(0, 3, false), (1, 61, false)]), 2, 16, some [.int .i64 0, .map], true⟩ := rfl
theorem ty63 : E.ty.get 63 = some ⟨(.struct [(0, 3, false), (1, 61, false)]), 2, 16, some [.int .i64 0, .map], true⟩ := rfl
theorem ty64 : E.ty.get 64 = some ⟨(.slice 36), 1, 24, some [.slice], true⟩ := rfl
theorem ty65 : E.ty.get 65 = some ⟨(.struct [(0, 48, false), (1, 3, false), (2, 3, false)]), 3, 24, some [.int .i64 0, .int .i64 0, .int .i64 0], true⟩ := rfl
theorem ty66 : E.ty.get 66 = some ⟨(.struct [(0, 48, false), (1, 3, false), (2, 3, false)]), 3, 24, some [.int .i64 0, .int .i64 0, .int .i64 0], true⟩ := rfl
theorem ty67 : E.ty.get 67 = some ⟨.other, 1, 0, none, true⟩ := rfl
theorem ty68 : E.ty.get 68 = some ⟨.func, 1, 8, some [.func], true⟩ := rfl
theorem ty69 : E.ty.get 69 = some ⟨.func, 1, 8, some [.func], true⟩ := rfl
theorem ty70 : E.ty.get 70 = some ⟨.func, 1, 8, some [.func], true⟩ := rfl
theorem ty71 : E.ty.get 71 = some ⟨(.slice 5), 1, 24, some [.slice], true⟩ := rfl
theorem ty72 : E.ty.get 72 = some ⟨.other, 1, 0, none, true⟩ := rfl
theorem ty73 : E.ty.get 73 = some ⟨.func, 1, 8, some [.func], true⟩ := rfl
theorem ty74 : E.ty.get 74 = some ⟨.func, 1, 8, some [.func], true⟩ := rfl
theorem ty75 : E.ty.get 75 = some ⟨.func, 1, 8, some [.func], true⟩ := rfl
theorem ty76 : E.ty.get 76 = some ⟨.func, 1, 8, some [.func], true⟩ := rfl
theorem ty77 : E.ty.get 77 = some ⟨.func, 1, 8, some [.func], true⟩ := rfl
theorem ty78 : E.ty.get 78 = some ⟨.other, 1, 0, none, true⟩ := rfl
theorem ty79 : E.ty.get 79 = some ⟨.func, 1, 8, some [.func], true⟩ := rfl
theorem ty80 : E.ty.get 80 = some ⟨.func, 1, 8, some [.func], true⟩ := rfl
theorem ty81 : E.ty.get 81 = some ⟨.func, 1, 8, some [.func], true⟩ := rfl
theorem ty82 : E.ty.get 82 = some ⟨(.slice 39), 1, 24, some [.slice], true⟩ := rfl
theorem ty83 : E.ty.get 83 = some ⟨.func, 1, 8, some [.func], true⟩ := rfl
theorem ty84 : E.ty.get 84 = some ⟨(.ptr 88), 1, 8, some [.ptr], true⟩ := rfl
theorem ty85 : E.ty.get 85 = some ⟨.func, 1, 8, some [.func], true⟩ := rfl
theorem ty86 : E.ty.get 86 = some ⟨(.ptr 84), 1, 8, some [.ptr], true⟩ := rfl
theorem ty87 : E.ty.get 87 = some ⟨(.struct [(0, 3, false), (1, 3, false), (2, 39, false)]), 3, 32, some [.int .i64 0, .int .i64 0, .iface], false⟩ := rfl
theorem ty88 : E.ty.get 88 = some ⟨(.struct [(0, 3, false), (1, 3, false), (2, 39, false)]), 3, 32, some [.int .i64 0, .int .i64 0, .iface], false⟩ := rfl
theorem ty89 : E.ty.get 89 = some ⟨(.struct [(0, 3, false), (1, 9, false)]), 2, 24, some [.int .i64 0, .str], true⟩ := rfl
theorem ty90 : E.ty.get 90 = some ⟨(.struct [(0, 3, false), (1, 9, false)]), 2, 24, some [.int .i64 0, .str], true⟩ := rfl
theorem ty91 : E.ty.get 91 = some ⟨.other, 1, 0, none, true⟩ := rfl
theorem ty92 : E.ty.get 92 = some ⟨.func, 1, 8, some [.func], true⟩ := rfl
theorem ty93 : E.ty.get 93 = some ⟨(.iface false), 1, 16, some [.iface], false⟩ := rfl
theorem ty94 : E.ty.get 94 = some ⟨(.iface false), 1, 16, some [.iface], false⟩ := rfl
theorem ty95 : E.ty.get 95 = some ⟨.func, 1, 8, some [.func], true⟩ := rfl
theorem ty96 : E.ty.get 96 = some ⟨.func, 1, 8, some [.func], true⟩ := rfl
theorem ty97 : E.ty.get 97 = some ⟨.other, 1, 8, some [.ptr], true⟩ := rfl
theorem ty98 : E.ty.get 98 = some ⟨(.int .u64), 1, 8, some [.int .u64 0], true⟩ := rfl
theorem ty99 : E.ty.get 99 = some ⟨(.struct [(0, 17, false), (1, 97, false), (2, 98, false)]), 3, 24, some [.ptr, .ptr, .int .u64 0], false⟩ := rfl
theorem ty100 : E.ty.get 100 = some ⟨(.struct [(0, 17, false), (1, 97, false), (2, 98, false)]), 3, 24, some [.ptr, .ptr, .int .u64 0], false⟩ := rfl
theorem ty101 : E.ty.get 101 = some ⟨.func, 1, 8, some [.func], true⟩ := rfl
theorem ty102 : E.ty.get 102 = some ⟨.func, 1, 8, some [.func], true⟩ := rfl
theorem ty103 : E.ty.get 103 = some ⟨(.int .u8), 1, 1, some [.int .u8 0], true⟩ := rfl
theorem ty104 : E.ty.get 104 = some ⟨.func, 1, 8, some [.func], true⟩ := rfl
theorem ty105 : E.ty.get 105 = some ⟨.func, 1, 8, some [.func], true⟩ := rfl
theorem ty106 : E.ty.get 106 = some ⟨.func, 1, 8, some [.func], true⟩ := rfl
theorem ty107 : E.ty.get 107 = some ⟨.func, 1, 8, some [.func], true⟩ := rfl
theorem ty108 : E.ty.get 108 = some ⟨(.struct [(0, 17, false)]), 1, 8, some [.ptr], false⟩ := rfl
theorem ty109 : E.ty.get 109 = some ⟨(.struct [(0, 17, false)]), 1, 8, some [.ptr], false⟩ := rfl
theorem ty110 : E.ty.get 110 = some ⟨(.ptr 146), 1, 8, some [.ptr], true⟩ := rfl
theorem ty111 : E.ty.get 111 = some ⟨(.iface false), 1, 16, some [.iface], false⟩ := rfl
theorem ty112 : E.ty.get 112 = some ⟨.other, 1, 0, none, true⟩ := rfl
theorem ty113 : E.ty.get 113 = some ⟨.func, 1, 8, some [.func], true⟩ := rfl
theorem ty114 : E.ty.get 114 = some ⟨(.iface false), 1, 16, some [.iface], false⟩ := rfl
theorem ty115 : E.ty.get 115 = some ⟨.func, 1, 8, some [.func], true⟩ := rfl
theorem ty116 : E.ty.get 116 = some ⟨(.iface false), 1, 16, some [.iface], false⟩ := rfl
theorem ty117 : E.ty.get 117 = some ⟨.func, 1, 8, some [.func], true⟩ := rfl
theorem ty118 : E.ty.get 118 = some ⟨.func, 1, 8, some [.func], true⟩ := rfl
theorem ty119 : E.ty.get 119 = some ⟨.func, 1, 8, some [.func], true⟩ := rfl
theorem ty120 : E.ty.get 120 = some ⟨(.iface false), 1, 16, some [.iface], false⟩ := rfl
theorem ty121 : E.ty.get 121 = some ⟨.other, 1, 0, none, true⟩ := rfl
theorem ty122 : E.ty.get 122 = some ⟨.func, 1, 8, some [.func], true⟩ := rfl
theorem ty123 : E.ty.get 123 = some ⟨.other, 1, 0, none, true⟩ := rfl
theorem ty124 : E.ty.get 124 = some ⟨.func, 1, 8, some [.func], true⟩ := rfl
theorem ty125 : E.ty.get 125 = some ⟨(.int .u64), 1, 8, some [.int .u64 0], true⟩ := rfl
theorem ty126 : E.ty.get 126 = some ⟨(.ptr 148), 1, 8, some [.ptr], true⟩ := rfl
theorem ty127 : E.ty.get 127 = some ⟨.func, 1, 8, some [.func], true⟩ := rfl
theorem ty128 : E.ty.get 128 = some ⟨(.struct [(0, 17, false), (1, 17, false), (2, 17, false), (3, 9, false)]), 4, 40, some [.ptr, .ptr, .ptr, .str], false⟩ := rfl
theorem ty129 : E.ty.get 129 = some ⟨(.struct [(0, 17, false), (1, 17, false), (2, 17, false), (3, 9, false)]), 4, 40, some [.ptr, .ptr, .ptr, .str], false⟩ := rfl
theorem ty130 : E.ty.get 130 = some ⟨(.arr 0 16), 0, 0, some [], true⟩ := rfl
theorem ty131 : E.ty.get 131 = some ⟨(.struct [(0, 130, true)]), 0, 0, some [], false⟩ := rfl
theorem ty132 : E.ty.get 132 = some ⟨(.struct [(0, 130, true)]), 0, 0, some [], false⟩ := rfl
theorem ty133 : E.ty.get 133 = some ⟨.func, 1, 8, some [.func], true⟩ := rfl
theorem ty134 : E.ty.get 134 = some ⟨.func, 1, 8, some [.func], true⟩ := rfl
theorem ty135 : E.ty.get 135 = some ⟨(.int .u32), 1, 4, some [.int .u32 0], true⟩ := rfl
theorem ty136 : E.ty.get 136 = some ⟨(.int .u8), 1, 1, some [.int .u8 0], true⟩ := rfl
theorem ty137 : E.ty.get 137 = some ⟨.func, 1, 8, some [.func], true⟩ := rfl
theorem ty138 : E.ty.get 138 = some ⟨(.ptr 5), 1, 8, some [.ptr], true⟩ := rfl
theorem ty139 : E.ty.get 139 = some ⟨(.int .i32), 1, 4, some [.int .i32 0], true⟩ := rfl
theorem ty140 : E.ty.get 140 = some ⟨(.int .i32), 1, 4, some [.int .i32 0], true⟩ := rfl
theorem ty141 : E.ty.get 141 = some ⟨(.struct [(0, 12, false), (1, 12, false), (2, 135, false), (3, 136, false), (4, 5, false), (5, 5, false), (6, 103, false), (7, 137, false), (8, 138, false), (9, 139, false), (10, 140, false)]), 11, 48, some [.int .u64 0, .int .u64 0, .int .u32 0, .int .u8 0, .int .u8 0, .int .u8 0, .int .u8 0, .func, .ptr, .int .i32 0, .int .i32 0], false⟩ := rfl
theorem ty142 : E.ty.get 142 = some ⟨(.struct [(0, 12, false), (1, 12, false), (2, 135, false), (3, 136, false), (4, 5, false), (5, 5, false), (6, 103, false), (7, 137, false), (8, 138, false), (9, 139, false), (10, 140, false)]), 11, 48, some [.int .u64 0, .int .u64 0, .int .u32 0, .int .u8 0, .int .u8 0, .int .u8 0, .int .u8 0, .func, .ptr, .int .i32 0, .int .i32 0], false⟩ := rfl
theorem ty143 : E.ty.get 143 = some ⟨.func, 1, 8, some [.func], true⟩ := rfl
theorem ty144 : E.ty.get 144 = some ⟨.func, 1, 8, some [.func], true⟩ := rfl
theorem ty145 : E.ty.get 145 = some ⟨(.struct [(0, 9, false), (1, 103, false)]), 2, 24, some [.str, .int .u8 0], false⟩ := rfl
theorem ty146 : E.ty.get 146 = some ⟨(.struct [(0, 9, false), (1, 103, false)]), 2, 24, some [.str, .int .u8 0], false⟩ := rfl
theorem ty147 : E.ty.get 147 = some ⟨(.struct [(0, 9, false)]), 1, 16, some [.str], true⟩ := rfl
theorem ty148 : E.ty.get 148 = some ⟨(.struct [(0, 9, false)]), 1, 16, some [.str], true⟩ := rfl
theorem ty149 : E.ty.get 149 = some ⟨(.ptr 153), 1, 8, some [.ptr], true⟩ := rfl
theorem ty150 : E.ty.get 150 = some ⟨.func, 1, 8, some [.func], true⟩ := rfl
theorem ty151 : E.ty.get 151 = some ⟨(.int .u16), 1, 2, some [.int .u16 0], true⟩ := rfl
theorem ty152 : E.ty.get 152 = some ⟨(.struct [(0, 139, false), (1, 151, false), (2, 151, false), (3, 135, false), (4, 135, true)]), 5, 16, some [.int .i32 0, .int .u16 0, .int .u16 0, .int .u32 0, .int .u32 0], false⟩ := rfl
theorem ty153 : E.ty.get 153 = some ⟨(.struct [(0, 139, false), (1, 151, false), (2, 151, false), (3, 135, false), (4, 135, true)]), 5, 16, some [.int .i32 0, .int .u16 0, .int .u16 0, .int .u32 0, .int .u32 0], false⟩ := rfl
theorem ty154 : E.ty.get 154 = some ⟨(.slice 157), 1, 24, some [.slice], true⟩ := rfl
theorem ty155 : E.ty.get 155 = some ⟨(.int .i32), 1, 4, some [.int .i32 0], true⟩ := rfl
theorem ty156 : E.ty.get 156 = some ⟨(.struct [(0, 139, false), (1, 140, false), (2, 155, false), (3, 155, false)]), 4, 16, some [.int .i32 0, .int .i32 0, .int .i32 0, .int .i32 0], false⟩ := rfl
theorem ty157 : E.ty.get 157 = some ⟨(.struct [(0, 139, false), (1, 140, false), (2, 155, false), (3, 155, false)]), 4, 16, some [.int .i32 0, .int .i32 0, .int .i32 0, .int .i32 0], false⟩ := rfl
theorem ty158 : E.ty.get 158 = some ⟨(.ptr 39), 1, 8, some [.ptr], true⟩ := rfl
theorem fa7_0 (b x : Nat) : afieldAddr E 7 (.pointer (some ⟨b, x, none⟩)) 0 = some (.pointer (some ⟨b, x + 0, none⟩)) := rfl
theorem fa7_1 (b x : Nat) : afieldAddr E 7 (.pointer (some ⟨b, x, none⟩)) 1 = some (.pointer (some ⟨b, x + 1, none⟩)) := rfl
theorem fa7_2 (b x : Nat) : afieldAddr E 7 (.pointer (some ⟨b, x, none⟩)) 2 = some (.pointer (some ⟨b, x + 2, none⟩)) := rfl
theorem fa7_3 (b x : Nat) : afieldAddr E 7 (.pointer (some ⟨b, x, none⟩)) 3 = some (.pointer (some ⟨b, x + 3, none⟩)) := rfl
theorem fa8_0 (b x : Nat) : afieldAddr E 8 (.pointer (some ⟨b, x, none⟩)) 0 = some (.pointer (some ⟨b, x + 0, none⟩)) := rfl
theorem fa8_1 (b x : Nat) : afieldAddr E 8 (.pointer (some ⟨b, x, none⟩)) 1 = some (.pointer (some ⟨b, x + 1, none⟩)) := rfl
theorem fa8_2 (b x : Nat) : afieldAddr E 8 (.pointer (some ⟨b, x, none⟩)) 2 = some (.pointer (some ⟨b, x + 2, none⟩)) := rfl
theorem fa8_3 (b x : Nat) : afieldAddr E 8 (.pointer (some ⟨b, x, none⟩)) 3 = some (.pointer (some ⟨b, x + 3, none⟩)) := rfl
theorem fa13_0 (b x : Nat) : afieldAddr E 13 (.pointer (some ⟨b, x, none⟩)) 0 = some (.pointer (some ⟨b, x + 0, none⟩)) := rfl
theorem fa13_1 (b x : Nat) : afieldAddr E 13 (.pointer (some ⟨b, x, none⟩)) 1 = some (.pointer (some ⟨b, x + 1, none⟩)) := rfl
theorem fa14_0 (b x : Nat) : afieldAddr E 14 (.pointer (some ⟨b, x, none⟩)) 0 = some (.pointer (some ⟨b, x + 0, none⟩)) := rfl
theorem fa14_1 (b x : Nat) : afieldAddr E 14 (.pointer (some ⟨b, x, none⟩)) 1 = some (.pointer (some ⟨b, x + 1, none⟩)) := rfl
theorem fa18_0 (b x : Nat) : afieldAddr E 18 (.pointer (some ⟨b, x, none⟩)) 0 = some (.pointer (some ⟨b, x + 0, none⟩)) := rfl
theorem fa19_0 (b x : Nat) : afieldAddr E 19 (.pointer (some ⟨b, x, none⟩)) 0 = some (.pointer (some ⟨b, x + 0, none⟩)) := rfl
theorem fa28_0 (b x : Nat) : afieldAddr E 28 (.pointer (some ⟨b, x, none⟩)) 0 = some (.pointer (some ⟨b, x + 0, none⟩)) := rfl
theorem fa28_1 (b x : Nat) : afieldAddr E 28 (.pointer (some ⟨b, x, none⟩)) 1 = some (.pointer (some ⟨b, x + 1, none⟩)) := rfl
theorem fa29_0 (b x : Nat) : afieldAddr E 29 (.pointer (some ⟨b, x, none⟩)) 0 = some (.pointer (some ⟨b, x + 0, none⟩)) := rfl
theorem fa29_1 (b x : Nat) : afieldAddr E 29 (.pointer (some ⟨b, x, none⟩)) 1 = some (.pointer (some ⟨b, x + 1, none⟩)) := rfl
theorem fa30_0 (b x : Nat) : afieldAddr E 30 (.pointer (some ⟨b, x, none⟩)) 0 = some (.pointer (some ⟨b, x + 0, none⟩)) := rfl
theorem fa30_1 (b x : Nat) : afieldAddr E 30 (.pointer (some ⟨b, x, none⟩)) 1 = some (.pointer (some ⟨b, x + 1, none⟩)) := rfl
theorem fa31_0 (b x : Nat) : afieldAddr E 31 (.pointer (some ⟨b, x, none⟩)) 0 = some (.pointer (some ⟨b, x + 0, none⟩)) := rfl
theorem fa31_1 (b x : Nat) : afieldAddr E 31 (.pointer (some ⟨b, x, none⟩)) 1 = some (.pointer (some ⟨b, x + 1, none⟩)) := rfl
theorem fa59_0 (b x : Nat) : afieldAddr E 59 (.pointer (some ⟨b, x, none⟩)) 0 = some (.pointer (some ⟨b, x + 0, none⟩)) := rfl
theorem fa59_1 (b x : Nat) : afieldAddr E 59 (.pointer (some ⟨b, x, none⟩)) 1 = some (.pointer (some ⟨b, x + 1, none⟩)) := rfl
theorem fa60_0 (b x : Nat) : afieldAddr E 60 (.pointer (some ⟨b, x, none⟩)) 0 = some (.pointer (some ⟨b, x + 0, none⟩)) := rfl
theorem fa60_1 (b x : Nat) : afieldAddr E 60 (.pointer (some ⟨b, x, none⟩)) 1 = some (.pointer (some ⟨b, x + 1, none⟩)) := rfl
theorem fa62_0 (b x : Nat) : afieldAddr E 62 (.pointer (some ⟨b, x, none⟩)) 0 = some (.pointer (some ⟨b, x + 0, none⟩)) := rfl
theorem fa62_1 (b x : Nat) : afieldAddr E 62 (.pointer (some ⟨b, x, none⟩)) 1 = some (.pointer (some ⟨b, x + 1, none⟩)) := rfl
theorem fa63_0 (b x : Nat) : afieldAddr E 63 (.pointer (some ⟨b, x, none⟩)) 0 = some (.pointer (some ⟨b, x + 0, none⟩)) := rfl
theorem fa63_1 (b x : Nat) : afieldAddr E 63 (.pointer (some ⟨b, x, none⟩)) 1 = some (.pointer (some ⟨b, x + 1, none⟩)) := rfl
theorem fa65_0 (b x : Nat) : afieldAddr E 65 (.pointer (some ⟨b, x, none⟩)) 0 = some (.pointer (some ⟨b, x + 0, none⟩)) := rfl
theorem fa65_1 (b x : Nat) : afieldAddr E 65 (.pointer (some ⟨b, x, none⟩)) 1 = some (.pointer (some ⟨b, x + 1, none⟩)) := rfl
theorem fa65_2 (b x : Nat) : afieldAddr E 65 (.pointer (some ⟨b, x, none⟩)) 2 = some (.pointer (some ⟨b, x + 2, none⟩)) := rfl
theorem fa66_0 (b x : Nat) : afieldAddr E 66 (.pointer (some ⟨b, x, none⟩)) 0 = some (.pointer (some ⟨b, x + 0, none⟩)) := rfl
theorem fa66_1 (b x : Nat) : afieldAddr E 66 (.pointer (some ⟨b, x, none⟩)) 1 = some (.pointer (some ⟨b, x + 1, none⟩)) := rfl
theorem fa66_2 (b x : Nat) : afieldAddr E 66 (.pointer (some ⟨b, x, none⟩)) 2 = some (.pointer (some ⟨b, x + 2, none⟩)) := rfl
theorem fa87_0 (b x : Nat) : afieldAddr E 87 (.pointer (some ⟨b, x, none⟩)) 0 = some (.pointer (some ⟨b, x + 0, none⟩)) := rfl
theorem fa87_1 (b x : Nat) : afieldAddr E 87 (.pointer (some ⟨b, x, none⟩)) 1 = some (.pointer (some ⟨b, x + 1, none⟩)) := rfl
theorem fa87_2 (b x : Nat) : afieldAddr E 87 (.pointer (some ⟨b, x, none⟩)) 2 = some (.pointer (some ⟨b, x + 2, none⟩)) := rfl
theorem fa88_0 (b x : Nat) : afieldAddr E 88 (.pointer (some ⟨b, x, none⟩)) 0 = some (.pointer (some ⟨b, x + 0, none⟩)) := rfl
theorem fa88_1 (b x : Nat) : afieldAddr E 88 (.pointer (some ⟨b, x, none⟩)) 1 = some (.pointer (some ⟨b, x + 1, none⟩)) := rfl
theorem fa88_2 (b x : Nat) : afieldAddr E 88 (.pointer (some ⟨b, x, none⟩)) 2 = some (.pointer (some ⟨b, x + 2, none⟩)) := rfl
theorem fa89_0 (b x : Nat) : afieldAddr E 89 (.pointer (some ⟨b, x, none⟩)) 0 = some (.pointer (some ⟨b, x + 0, none⟩)) := rfl
theorem fa89_1 (b x : Nat) : afieldAddr E 89 (.pointer (some ⟨b, x, none⟩)) 1 = some (.pointer (some ⟨b, x + 1, none⟩)) := rfl
theorem fa90_0 (b x : Nat) : afieldAddr E 90 (.pointer (some ⟨b, x, none⟩)) 0 = some (.pointer (some ⟨b, x + 0, none⟩)) := rfl
theorem fa90_1 (b x : Nat) : afieldAddr E 90 (.pointer (some ⟨b, x, none⟩)) 1 = some (.pointer (some ⟨b, x + 1, none⟩)) := rfl
theorem fa99_0 (b x : Nat) : afieldAddr E 99 (.pointer (some ⟨b, x, none⟩)) 0 = some (.pointer (some ⟨b, x + 0, none⟩)) := rfl
theorem fa99_1 (b x : Nat) : afieldAddr E 99 (.pointer (some ⟨b, x, none⟩)) 1 = some (.pointer (some ⟨b, x + 1, none⟩)) := rfl
theorem fa99_2 (b x : Nat) : afieldAddr E 99 (.pointer (some ⟨b, x, none⟩)) 2 = some (.pointer (some ⟨b, x + 2, none⟩)) := rfl
theorem fa100_0 (b x : Nat) : afieldAddr E 100 (.pointer (some ⟨b, x, none⟩)) 0 = some (.pointer (some ⟨b, x + 0, none⟩)) := rfl
theorem fa100_1 (b x : Nat) : afieldAddr E 100 (.pointer (some ⟨b, x, none⟩)) 1 = some (.pointer (some ⟨b, x + 1, none⟩)) := rfl
theorem fa100_2 (b x : Nat) : afieldAddr E 100 (.pointer (some ⟨b, x, none⟩)) 2 = some (.pointer (some ⟨b, x + 2, none⟩)) := rfl
theorem fa108_0 (b x : Nat) : afieldAddr E 108 (.pointer (some ⟨b, x, none⟩)) 0 = some (.pointer (some ⟨b, x + 0, none⟩)) := rfl
theorem fa109_0 (b x : Nat) : afieldAddr E 109 (.pointer (some ⟨b, x, none⟩)) 0 = some (.pointer (some ⟨b, x + 0, none⟩)) := rfl
theorem fa128_0 (b x : Nat) : afieldAddr E 128 (.pointer (some ⟨b, x, none⟩)) 0 = some (.pointer (some ⟨b, x + 0, none⟩)) := rfl
theorem fa128_1 (b x : Nat) : afieldAddr E 128 (.pointer (some ⟨b, x, none⟩)) 1 = some (.pointer (some ⟨b, x + 1, none⟩)) := rfl
theorem fa128_2 (b x : Nat) : afieldAddr E 128 (.pointer (some ⟨b, x, none⟩)) 2 = some (.pointer (some ⟨b, x + 2, none⟩)) := rfl
theorem fa128_3 (b x : Nat) : afieldAddr E 128 (.pointer (some ⟨b, x, none⟩)) 3 = some (.pointer (some ⟨b, x + 3, none⟩)) := rfl
theorem fa129_0 (b x : Nat) : afieldAddr E 129 (.pointer (some ⟨b, x, none⟩)) 0 = some (.pointer (some ⟨b, x + 0, none⟩)) := rfl
theorem fa129_1 (b x : Nat) : afieldAddr E 129 (.pointer (some ⟨b, x, none⟩)) 1 = some (.pointer (some ⟨b, x + 1, none⟩)) := rfl
theorem fa129_2 (b x : Nat) : afieldAddr E 129 (.pointer (some ⟨b, x, none⟩)) 2 = some (.pointer (some ⟨b, x + 2, none⟩)) := rfl
theorem fa129_3 (b x : Nat) : afieldAddr E 129 (.pointer (some ⟨b, x, none⟩)) 3 = some (.pointer (some ⟨b, x + 3, none⟩)) := rfl
theorem fa141_0 (b x : Nat) : afieldAddr E 141 (.pointer (some ⟨b, x, none⟩)) 0 = some (.pointer (some ⟨b, x + 0, none⟩)) := rfl
theorem fa141_1 (b x : Nat) : afieldAddr E 141 (.pointer (some ⟨b, x, none⟩)) 1 = some (.pointer (some ⟨b, x + 1, none⟩)) := rfl
theorem fa141_2 (b x : Nat) : afieldAddr E 141 (.pointer (some ⟨b, x, none⟩)) 2 = some (.pointer (some ⟨b, x + 2, none⟩)) := rfl
theorem fa141_3 (b x : Nat) : afieldAddr E 141 (.pointer (some ⟨b, x, none⟩)) 3 = some (.pointer (some ⟨b, x + 3, none⟩)) := rfl
theorem fa141_4 (b x : Nat) : afieldAddr E 141 (.pointer (some ⟨b, x, none⟩)) 4 = some (.pointer (some ⟨b, x + 4, none⟩)) := rfl
theorem fa141_5 (b x : Nat) : afieldAddr E 141 (.pointer (some ⟨b, x, none⟩)) 5 = some (.pointer (some ⟨b, x + 5, none⟩)) := rfl
theorem fa141_6 (b x : Nat) : afieldAddr E 141 (.pointer (some ⟨b, x, none⟩)) 6 = some (.pointer (some ⟨b, x + 6, none⟩)) := rfl
theorem fa141_7 (b x : Nat) : afieldAddr E 141 (.pointer (some ⟨b, x, none⟩)) 7 = some (.pointer (some ⟨b, x + 7, none⟩)) := rfl
theorem fa141_8 (b x : Nat) : afieldAddr E 141 (.pointer (some ⟨b, x, none⟩)) 8 = some (.pointer (some ⟨b, x + 8, none⟩)) := rfl
theorem fa141_9 (b x : Nat) : afieldAddr E 141 (.pointer (some ⟨b, x, none⟩)) 9 = some (.pointer (some ⟨b, x + 9, none⟩)) := rfl
theorem fa141_10 (b x : Nat) : afieldAddr E 141 (.pointer (some ⟨b, x, none⟩)) 10 = some (.pointer (some ⟨b, x + 10, none⟩)) := rfl
theorem fa142_0 (b x : Nat) : afieldAddr E 142 (.pointer (some ⟨b, x, none⟩)) 0 = some (.pointer (some ⟨b, x + 0, none⟩)) := rfl
theorem fa142_1 (b x : Nat) : afieldAddr E 142 (.pointer (some ⟨b, x, none⟩)) 1 = some (.pointer (some ⟨b, x + 1, none⟩)) := rfl
theorem fa142_2 (b x : Nat) : afieldAddr E 142 (.pointer (some ⟨b, x, none⟩)) 2 = some (.pointer (some ⟨b, x + 2, none⟩)) := rfl
theorem fa142_3 (b x : Nat) : afieldAddr E 142 (.pointer (some ⟨b, x, none⟩)) 3 = some (.pointer (some ⟨b, x + 3, none⟩)) := rfl
theorem fa142_4 (b x : Nat) : afieldAddr E 142 (.pointer (some ⟨b, x, none⟩)) 4 = some (.pointer (some ⟨b, x + 4, none⟩)) := rfl
theorem fa142_5 (b x : Nat) : afieldAddr E 142 (.pointer (some ⟨b, x, none⟩)) 5 = some (.pointer (some ⟨b, x + 5, none⟩)) := rfl
theorem fa142_6 (b x : Nat) : afieldAddr E 142 (.pointer (some ⟨b, x, none⟩)) 6 = some (.pointer (some ⟨b, x + 6, none⟩)) := rfl
theorem fa142_7 (b x : Nat) : afieldAddr E 142 (.pointer (some ⟨b, x, none⟩)) 7 = some (.pointer (some ⟨b, x + 7, none⟩)) := rfl
theorem fa142_8 (b x : Nat) : afieldAddr E 142 (.pointer (some ⟨b, x, none⟩)) 8 = some (.pointer (some ⟨b, x + 8, none⟩)) := rfl
theorem fa142_9 (b x : Nat) : afieldAddr E 142 (.pointer (some ⟨b, x, none⟩)) 9 = some (.pointer (some ⟨b, x + 9, none⟩)) := rfl
theorem fa142_10 (b x : Nat) : afieldAddr E 142 (.pointer (some ⟨b, x, none⟩)) 10 = some (.pointer (some ⟨b, x + 10, none⟩)) := rfl
theorem fa145_0 (b x : Nat) : afieldAddr E 145 (.pointer (some ⟨b, x, none⟩)) 0 = some (.pointer (some ⟨b, x + 0, none⟩)) := rfl
theorem fa145_1 (b x : Nat) : afieldAddr E 145 (.pointer (some ⟨b, x, none⟩)) 1 = some (.pointer (some ⟨b, x + 1, none⟩)) := rfl
theorem fa146_0 (b x : Nat) : afieldAddr E 146 (.pointer (some ⟨b, x, none⟩)) 0 = some (.pointer (some ⟨b, x + 0, none⟩)) := rfl
theorem fa146_1 (b x : Nat) : afieldAddr E 146 (.pointer (some ⟨b, x, none⟩)) 1 = some (.pointer (some ⟨b, x + 1, none⟩)) := rfl
theorem fa147_0 (b x : Nat) : afieldAddr E 147 (.pointer (some ⟨b, x, none⟩)) 0 = some (.pointer (some ⟨b, x + 0, none⟩)) := rfl
theorem fa148_0 (b x : Nat) : afieldAddr E 148 (.pointer (some ⟨b, x, none⟩)) 0 = some (.pointer (some ⟨b, x + 0, none⟩)) := rfl
theorem fa152_0 (b x : Nat) : afieldAddr E 152 (.pointer (some ⟨b, x, none⟩)) 0 = some (.pointer (some ⟨b, x + 0, none⟩)) := rfl
theorem fa152_1 (b x : Nat) : afieldAddr E 152 (.pointer (some ⟨b, x, none⟩)) 1 = some (.pointer (some ⟨b, x + 1, none⟩)) := rfl
theorem fa152_2 (b x : Nat) : afieldAddr E 152 (.pointer (some ⟨b, x, none⟩)) 2 = some (.pointer (some ⟨b, x + 2, none⟩)) := rfl
theorem fa152_3 (b x : Nat) : afieldAddr E 152 (.pointer (some ⟨b, x, none⟩)) 3 = some (.pointer (some ⟨b, x + 3, none⟩)) := rfl
theorem fa152_4 (b x : Nat) : afieldAddr E 152 (.pointer (some ⟨b, x, none⟩)) 4 = some (.pointer (some ⟨b, x + 4, none⟩)) := rfl
theorem fa153_0 (b x : Nat) : afieldAddr E 153 (.pointer (some ⟨b, x, none⟩)) 0 = some (.pointer (some ⟨b, x + 0, none⟩)) := rfl
theorem fa153_1 (b x : Nat) : afieldAddr E 153 (.pointer (some ⟨b, x, none⟩)) 1 = some (.pointer (some ⟨b, x + 1, none⟩)) := rfl
theorem fa153_2 (b x : Nat) : afieldAddr E 153 (.pointer (some ⟨b, x, none⟩)) 2 = some (.pointer (some ⟨b, x + 2, none⟩)) := rfl
theorem fa153_3 (b x : Nat) : afieldAddr E 153 (.pointer (some ⟨b, x, none⟩)) 3 = some (.pointer (some ⟨b, x + 3, none⟩)) := rfl
theorem fa153_4 (b x : Nat) : afieldAddr E 153 (.pointer (some ⟨b, x, none⟩)) 4 = some (.pointer (some ⟨b, x + 4, none⟩)) := rfl
theorem fa156_0 (b x : Nat) : afieldAddr E 156 (.pointer (some ⟨b, x, none⟩)) 0 = some (.pointer (some ⟨b, x + 0, none⟩)) := rfl
theorem fa156_1 (b x : Nat) : afieldAddr E 156 (.pointer (some ⟨b, x, none⟩)) 1 = some (.pointer (some ⟨b, x + 1, none⟩)) := rfl
theorem fa156_2 (b x : Nat) : afieldAddr E 156 (.pointer (some ⟨b, x, none⟩)) 2 = some (.pointer (some ⟨b, x + 2, none⟩)) := rfl
theorem fa156_3 (b x : Nat) : afieldAddr E 156 (.pointer (some ⟨b, x, none⟩)) 3 = some (.pointer (some ⟨b, x + 3, none⟩)) := rfl
theorem fa157_0 (b x : Nat) : afieldAddr E 157 (.pointer (some ⟨b, x, none⟩)) 0 = some (.pointer (some ⟨b, x + 0, none⟩)) := rfl
theorem fa157_1 (b x : Nat) : afieldAddr E 157 (.pointer (some ⟨b, x, none⟩)) 1 = some (.pointer (some ⟨b, x + 1, none⟩)) := rfl
theorem fa157_2 (b x : Nat) : afieldAddr E 157 (.pointer (some ⟨b, x, none⟩)) 2 = some (.pointer (some ⟨b, x + 2, none⟩)) := rfl
theorem fa157_3 (b x : Nat) : afieldAddr E 157 (.pointer (some ⟨b, x, none⟩)) 3 = some (.pointer (some ⟨b, x + 3, none⟩)) := rfl
/-- gosem.cut.init -/
theorem call2 {args : List Value} {H : AHeap} {Q : Value → AHeap → Prop} (hl : args.length ≤ 1) (h : CodeW E (strip [] (bodyOf Tryd.f2)) (L 1 (ofL args)) H (retQ E [] Q)) : CallW E 2 args H Q :=
  W_callS [] rfl rfl rfl rfl rfl (by kernel_rfl) hl h
/-- towncrier/towncrierlaw26.AliasOut -/
theorem call3 {args : List Value} {H : AHeap} {Q : Value → AHeap → Prop} (hl : args.length ≤ 87) (h : CodeW E (strip [] (bodyOf Tryd.f3)) (L 87 (ofL args)) H (retQ E [.tmp 4] Q)) : CallW E 3 args H Q :=
  W_callS [] rfl rfl rfl rfl rfl (by kernel_rfl) hl h
/-- towncrier/towncrierlaw26.AliasBack -/
theorem call4 {args : List Value} {H : AHeap} {Q : Value → AHeap → Prop} (hl : args.length ≤ 69) (h : CodeW E (strip [] (bodyOf Tryd.f4)) (L 69 (ofL args)) H (retQ E [.tmp 4] Q)) : CallW E 4 args H Q :=
  W_callS [] rfl rfl rfl rfl rfl (by kernel_rfl) hl h
/-- towncrier/towncrierlaw02.VarintBack -/
theorem call5 {args : List Value} {H : AHeap} {Q : Value → AHeap → Prop} (hl : args.length ≤ 103) (h : CodeW E (strip [] (bodyOf Tryd.f5)) (L 103 (ofL args)) H (retQ E [.tmp 6] Q)) : CallW E 5 args H Q :=
  W_callS [] rfl rfl rfl rfl rfl (by kernel_rfl) hl h
/-- towncrier/towncrierlaw02.VarintPuts -/
theorem call6 {args : List Value} {H : AHeap} {Q : Value → AHeap → Prop} (hl : args.length ≤ 53) (h : CodeW E (strip [] (bodyOf Tryd.f6)) (L 53 (ofL args)) H (retQ E [.tmp 2] Q)) : CallW E 6 args H Q :=
  W_callS [] rfl rfl rfl rfl rfl (by kernel_rfl) hl h
/-- towncrier/towncrierlaw02.VarintTakes -/
theorem call7 {args : List Value} {H : AHeap} {Q : Value → AHeap → Prop} (hl : args.length ≤ 59) (h : CodeW E (strip [] (bodyOf Tryd.f7)) (L 59 (ofL args)) H (retQ E [.tmp 2] Q)) : CallW E 7 args H Q :=
  W_callS [] rfl rfl rfl rfl rfl (by kernel_rfl) hl h
/-- towncrier/towncrierlaw26.AliasIn -/
theorem call8 {args : List Value} {H : AHeap} {Q : Value → AHeap → Prop} (hl : args.length ≤ 145) (h : CodeW E (strip [11, 18] (bodyOf Tryd.f8)) (L 145 (ofL args)) H (retQ E [.tmp 6] Q)) : CallW E 8 args H Q :=
  W_callS [11, 18] rfl rfl rfl rfl rfl (by kernel_rfl) hl h
/-- towncrier/towncrierlaw03.UtfLetters -/
theorem call9 {args : List Value} {H : AHeap} {Q : Value → AHeap → Prop} (hl : args.length ≤ 64) (h : CodeW E (strip [9] (bodyOf Tryd.f9)) (L 64 (ofL args)) H (retQ E [.tmp 6] Q)) : CallW E 9 args H Q :=
  W_callS [9] rfl rfl rfl rfl rfl (by kernel_rfl) hl h
/-- towncrier/towncrierlaw03.UtfTogether -/
theorem call10 {args : List Value} {H : AHeap} {Q : Value → AHeap → Prop} (hl : args.length ≤ 111) (h : CodeW E (strip [] (bodyOf Tryd.f10)) (L 111 (ofL args)) H (retQ E [.tmp 6] Q)) : CallW E 10 args H Q :=
  W_callS [] rfl rfl rfl rfl rfl (by kernel_rfl) hl h
/-- towncrier/towncrierlaw03.UtfIs -/
theorem call11 {args : List Value} {H : AHeap} {Q : Value → AHeap → Prop} (hl : args.length ≤ 69) (h : CodeW E (strip [] (bodyOf Tryd.f11)) (L 69 (ofL args)) H (retQ E [.tmp 2] Q)) : CallW E 11 args H Q :=
  W_callS [] rfl rfl rfl rfl rfl (by kernel_rfl) hl h
/-- towncrier/towncrierref26.Few -/
theorem call12 {args : List Value} {H : AHeap} {Q : Value → AHeap → Prop} (hl : args.length ≤ 23) (h : CodeW E (strip [] (bodyOf Tryd.f12)) (L 23 (ofL args)) H (retQ E [.tmp 2] Q)) : CallW E 12 args H Q :=
  W_callS [] rfl rfl rfl rfl rfl (by kernel_rfl) hl h
/-- towncrier/alias.NewOut -/
theorem call14 {args : List Value} {H : AHeap} {Q : Value → AHeap → Prop} (hl : args.length ≤ 7) (h : CodeW E (strip [] (bodyOf Tryd.f14)) (L 7 (ofL args)) H (retQ E [.tmp 2] Q)) : CallW E 14 args H Q :=
  W_callS [] rfl rfl rfl rfl rfl (by kernel_rfl) hl h
/-- (*towncrier/alias.Out).Name -/
theorem call15 {args : List Value} {H : AHeap} {Q : Value → AHeap → Prop} (hl : args.length ≤ 51) (h : CodeW E (strip [] (bodyOf Tryd.f15)) (L 51 (ofL args)) H (retQ E [.tmp 4, .tmp 5] Q)) : CallW E 15 args H Q :=
  W_callS [] rfl rfl rfl rfl rfl (by kernel_rfl) hl h
/-- (*towncrier/towncrierref26.Out).Name -/
theorem call16 {args : List Value} {H : AHeap} {Q : Value → AHeap → Prop} (hl : args.length ≤ 59) (h : CodeW E (strip [] (bodyOf Tryd.f16)) (L 59 (ofL args)) H (retQ E [.tmp 4, .tmp 5] Q)) : CallW E 16 args H Q :=
  W_callS [] rfl rfl rfl rfl rfl (by kernel_rfl) hl h
/-- towncrier/alias.NewIn -/
theorem call17 {args : List Value} {H : AHeap} {Q : Value → AHeap → Prop} (hl : args.length ≤ 8) (h : CodeW E (strip [] (bodyOf Tryd.f17)) (L 8 (ofL args)) H (retQ E [.tmp 2] Q)) : CallW E 17 args H Q :=
  W_callS [] rfl rfl rfl rfl rfl (by kernel_rfl) hl h
/-- (*towncrier/alias.In).Topic -/
theorem call18 {args : List Value} {H : AHeap} {Q : Value → AHeap → Prop} (hl : args.length ≤ 41) (h : CodeW E (strip [] (bodyOf Tryd.f18)) (L 41 (ofL args)) H (retQ E [.tmp 6, .tmp 7] Q)) : CallW E 18 args H Q :=
  W_callS [] rfl rfl rfl rfl rfl (by kernel_rfl) hl h
/-- towncrier/varint.Put -/
theorem call20 {args : List Value} {H : AHeap} {Q : Value → AHeap → Prop} (hl : args.length ≤ 39) (h : CodeW E (strip [] (bodyOf Tryd.f20)) (L 39 (ofL args)) H (retQ E [.tmp 2, .tmp 3] Q)) : CallW E 20 args H Q :=
  W_callS [] rfl rfl rfl rfl rfl (by kernel_rfl) hl h
/-- towncrier/varint.Take -/
theorem call21 {args : List Value} {H : AHeap} {Q : Value → AHeap → Prop} (hl : args.length ≤ 48) (h : CodeW E (strip [] (bodyOf Tryd.f21)) (L 48 (ofL args)) H (retQ E [.tmp 2, .tmp 3, .tmp 4] Q)) : CallW E 21 args H Q :=
  W_callS [] rfl rfl rfl rfl rfl (by kernel_rfl) hl h
/-- towncrier/towncrierref02.Put -/
theorem call22 {args : List Value} {H : AHeap} {Q : Value → AHeap → Prop} (hl : args.length ≤ 31) (h : CodeW E (strip [] (bodyOf Tryd.f22)) (L 31 (ofL args)) H (retQ E [.tmp 2, .tmp 3] Q)) : CallW E 22 args H Q :=
  W_callS [] rfl rfl rfl rfl rfl (by kernel_rfl) hl h
/-- towncrier/fault.Number -/
theorem call23 {args : List Value} {H : AHeap} {Q : Value → AHeap → Prop} (hl : args.length ≤ 27) (h : CodeW E (strip [] (bodyOf Tryd.f23)) (L 27 (ofL args)) H (retQ E [.tmp 2] Q)) : CallW E 23 args H Q :=
  W_callS [] rfl rfl rfl rfl rfl (by kernel_rfl) hl h
/-- towncrier/fault.Reason -/
theorem call24 {args : List Value} {H : AHeap} {Q : Value → AHeap → Prop} (hl : args.length ≤ 13) (h : CodeW E (strip [] (bodyOf Tryd.f24)) (L 13 (ofL args)) H (retQ E [.tmp 2] Q)) : CallW E 24 args H Q :=
  W_callS [] rfl rfl rfl rfl rfl (by kernel_rfl) hl h
/-- towncrier/fault.At -/
theorem call25 {args : List Value} {H : AHeap} {Q : Value → AHeap → Prop} (hl : args.length ≤ 15) (h : CodeW E (strip [] (bodyOf Tryd.f25)) (L 15 (ofL args)) H (retQ E [.tmp 2] Q)) : CallW E 25 args H Q :=
  W_callS [] rfl rfl rfl rfl rfl (by kernel_rfl) hl h
/-- towncrier/varint.Size -/
theorem call26 {args : List Value} {H : AHeap} {Q : Value → AHeap → Prop} (hl : args.length ≤ 17) (h : CodeW E (strip [] (bodyOf Tryd.f26)) (L 17 (ofL args)) H (retQ E [.tmp 2] Q)) : CallW E 26 args H Q :=
  W_callS [] rfl rfl rfl rfl rfl (by kernel_rfl) hl h
/-- towncrier/towncrierref02.Take -/
theorem call27 {args : List Value} {H : AHeap} {Q : Value → AHeap → Prop} (hl : args.length ≤ 44) (h : CodeW E (strip [] (bodyOf Tryd.f27)) (L 44 (ofL args)) H (retQ E [.tmp 2, .tmp 3, .tmp 4, .tmp 5] Q)) : CallW E 27 args H Q :=
  W_callS [] rfl rfl rfl rfl rfl (by kernel_rfl) hl h
/-- (*towncrier/towncrierref26.In).Topic -/
theorem call28 {args : List Value} {H : AHeap} {Q : Value → AHeap → Prop} (hl : args.length ≤ 81) (h : CodeW E (strip [] (bodyOf Tryd.f28)) (L 81 (ofL args)) H (retQ E [.tmp 6, .cell 7 66] Q)) : CallW E 28 args H Q :=
  W_callS [] rfl rfl rfl rfl rfl (by kernel_rfl) hl h
/-- towncrier/towncrierref03.Bytes -/
theorem call29 {args : List Value} {H : AHeap} {Q : Value → AHeap → Prop} (hl : args.length ≤ 76) (h : CodeW E (strip [] (bodyOf Tryd.f29)) (L 76 (ofL args)) H (retQ E [.tmp 2] Q)) : CallW E 29 args H Q :=
  W_callS [] rfl rfl rfl rfl rfl (by kernel_rfl) hl h
/-- towncrier/utf.Letters -/
theorem call31 {args : List Value} {H : AHeap} {Q : Value → AHeap → Prop} (hl : args.length ≤ 24) (h : CodeW E (strip [] (bodyOf Tryd.f31)) (L 24 (ofL args)) H (retQ E [.tmp 2, .tmp 3] Q)) : CallW E 31 args H Q :=
  W_callS [] rfl rfl rfl rfl rfl (by kernel_rfl) hl h
/-- towncrier/utf.Check -/
theorem call32 {args : List Value} {H : AHeap} {Q : Value → AHeap → Prop} (hl : args.length ≤ 11) (h : CodeW E (strip [] (bodyOf Tryd.f32)) (L 11 (ofL args)) H (retQ E [.tmp 2] Q)) : CallW E 32 args H Q :=
  W_callS [] rfl rfl rfl rfl rfl (by kernel_rfl) hl h
/-- towncrier/towncrierref03.Is -/
theorem call33 {args : List Value} {H : AHeap} {Q : Value → AHeap → Prop} (hl : args.length ≤ 12) (h : CodeW E (strip [] (bodyOf Tryd.f33)) (L 12 (ofL args)) H (retQ E [.tmp 2] Q)) : CallW E 33 args H Q :=
  W_callS [] rfl rfl rfl rfl rfl (by kernel_rfl) hl h
/-- towncrier/utf.Cut -/
theorem call34 {args : List Value} {H : AHeap} {Q : Value → AHeap → Prop} (hl : args.length ≤ 11) (h : CodeW E (strip [] (bodyOf Tryd.f34)) (L 11 (ofL args)) H (retQ E [.tmp 2] Q)) : CallW E 34 args H Q :=
  W_callS [] rfl rfl rfl rfl rfl (by kernel_rfl) hl h
/-- towncrier/towncrierref03.Check -/
theorem call35 {args : List Value} {H : AHeap} {Q : Value → AHeap → Prop} (hl : args.length ≤ 15) (h : CodeW E (strip [] (bodyOf Tryd.f35)) (L 15 (ofL args)) H (retQ E [.tmp 2, .tmp 3] Q)) : CallW E 35 args H Q :=
  W_callS [] rfl rfl rfl rfl rfl (by kernel_rfl) hl h
/-- towncrier/towncrierref03.Letters -/
theorem call36 {args : List Value} {H : AHeap} {Q : Value → AHeap → Prop} (hl : args.length ≤ 25) (h : CodeW E (strip [] (bodyOf Tryd.f36)) (L 25 (ofL args)) H (retQ E [.tmp 2] Q)) : CallW E 36 args H Q :=
  W_callS [] rfl rfl rfl rfl rfl (by kernel_rfl) hl h
/-- towncrier/towncrierref03.Cut -/
theorem call37 {args : List Value} {H : AHeap} {Q : Value → AHeap → Prop} (hl : args.length ≤ 22) (h : CodeW E (strip [] (bodyOf Tryd.f37)) (L 22 (ofL args)) H (retQ E [.tmp 2] Q)) : CallW E 37 args H Q :=
  W_callS [] rfl rfl rfl rfl rfl (by kernel_rfl) hl h
/-- slices.Index[[]string,string] -/
theorem call38 {args : List Value} {H : AHeap} {Q : Value → AHeap → Prop} (hl : args.length ≤ 19) (h : CodeW E (strip [] (bodyOf Tryd.f38)) (L 19 (ofL args)) H (retQ E [.tmp 4] Q)) : CallW E 38 args H Q :=
  W_callS [] rfl rfl rfl rfl rfl (by kernel_rfl) hl h
/-- (*towncrier/alias.In).may -/
theorem call39 {args : List Value} {H : AHeap} {Q : Value → AHeap → Prop} (hl : args.length ≤ 26) (h : CodeW E (strip [] (bodyOf Tryd.f39)) (L 26 (ofL args)) H (retQ E [.tmp 4] Q)) : CallW E 39 args H Q :=
  W_callS [] rfl rfl rfl rfl rfl (by kernel_rfl) hl h
/-- towncrier/fault.New -/
theorem call40 {args : List Value} {H : AHeap} {Q : Value → AHeap → Prop} (hl : args.length ≤ 15) (h : CodeW E (strip [] (bodyOf Tryd.f40)) (L 15 (ofL args)) H (retQ E [.tmp 6] Q)) : CallW E 40 args H Q :=
  W_callS [] rfl rfl rfl rfl rfl (by kernel_rfl) hl h
/-- towncrier/utf.walk -/
theorem call43 {args : List Value} {H : AHeap} {Q : Value → AHeap → Prop} (hl : args.length ≤ 24) (h : CodeW E (strip [] (bodyOf Tryd.f43)) (L 24 (ofL args)) H (retQ E [.tmp 2, .tmp 3] Q)) : CallW E 43 args H Q :=
  W_callS [] rfl rfl rfl rfl rfl (by kernel_rfl) hl h
/-- towncrier/towncrierref03.First -/
theorem call44 {args : List Value} {H : AHeap} {Q : Value → AHeap → Prop} (hl : args.length ≤ 29) (h : CodeW E (strip [] (bodyOf Tryd.f44)) (L 29 (ofL args)) H (retQ E [.tmp 2] Q)) : CallW E 44 args H Q :=
  W_callS [] rfl rfl rfl rfl rfl (by kernel_rfl) hl h
/-- towncrier/utf.first -/
theorem call51 {args : List Value} {H : AHeap} {Q : Value → AHeap → Prop} (hl : args.length ≤ 56) (h : CodeW E (strip [] (bodyOf Tryd.f51)) (L 56 (ofL args)) H (retQ E [.tmp 2] Q)) : CallW E 51 args H Q :=
  W_callS [] rfl rfl rfl rfl rfl (by kernel_rfl) hl h
/-- towncrier/towncrierref03.number -/
theorem call52 {args : List Value} {H : AHeap} {Q : Value → AHeap → Prop} (hl : args.length ≤ 51) (h : CodeW E (strip [] (bodyOf Tryd.f52)) (L 51 (ofL args)) H (retQ E [.tmp 4] Q)) : CallW E 52 args H Q :=
  W_callS [] rfl rfl rfl rfl rfl (by kernel_rfl) hl h
/-- towncrier/utf.shape -/
theorem call55 {args : List Value} {H : AHeap} {Q : Value → AHeap → Prop} (hl : args.length ≤ 44) (h : CodeW E (strip [] (bodyOf Tryd.f55)) (L 44 (ofL args)) H (retQ E [.tmp 2, .tmp 3, .tmp 4] Q)) : CallW E 55 args H Q :=
  W_callS [] rfl rfl rfl rfl rfl (by kernel_rfl) hl h
/-- (*towncrier/fault.Fault).Unwrap -/
theorem call74 {args : List Value} {H : AHeap} {Q : Value → AHeap → Prop} (hl : args.length ≤ 9) (h : CodeW E (strip [] (bodyOf Tryd.f74)) (L 9 (ofL args)) H (retQ E [.tmp 2] Q)) : CallW E 74 args H Q :=
  W_callS [] rfl rfl rfl rfl rfl (by kernel_rfl) hl h
/-- errors.New -/
theorem call91 {args : List Value} {H : AHeap} {Q : Value → AHeap → Prop} (hl : args.length ≤ 7) (h : CodeW E (strip [] (bodyOf Tryd.f91)) (L 7 (ofL args)) H (retQ E [.tmp 2] Q)) : CallW E 91 args H Q :=
  W_callS [] rfl rfl rfl rfl rfl (by kernel_rfl) hl h
/-- gosem.cut.vars -/
theorem call102 {args : List Value} {H : AHeap} {Q : Value → AHeap → Prop} (hl : args.length ≤ 10) (h : CodeW E (strip [] (bodyOf Tryd.f102)) (L 10 (ofL args)) H (retQ E [] Q)) : CallW E 102 args H Q :=
  W_callS [] rfl rfl rfl rfl rfl (by kernel_rfl) hl h
end Go.Proofs.YtlmcjfnignbdoaaDoor.AbsB
