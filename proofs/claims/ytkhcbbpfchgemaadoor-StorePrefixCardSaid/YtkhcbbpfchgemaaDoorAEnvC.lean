/-
  A part of a law's proof.
-/
import Derived.Test.YtkhcbbpfchgemaaDoorAEnvB
import Derived.Test.YtkhcbbpfchgemaaDoorAMf
import Derived.Test.YtkhcbbpfchgemaaDoorAWak4
namespace Go.Proofs.YtkhcbbpfchgemaaDoor.AbsB
open Go AbsYtkhcbbpfchgemaaDoor Abs
set_option maxRecDepth 100000
set_option maxHeartbeats 4000000
noncomputable def E : Env := E1.worked B [(4,.bool true)]
theorem env_ok : EnvOk E := EnvOk.withOf env1_ok env10_ok rfl rfl rfl (by kernel_rfl) _ (by
 intro p hp
 simp only [List.mem_cons,List.not_mem_nil,or_false] at hp
 rcases hp with rfl
 ·obtain ⟨H,h⟩ := isT_some awake4; exact ⟨rfl,300,H,h⟩)
theorem base_same {H : AHeap} (h : Holds B B H) : sameBase B nb H = true := by
 simp only [sameBase,List.all_eq_true,List.mem_range]
 intro b hb
 split
 ·rfl
 ·rename_i hne
  exact oeq_of (h.base b hne).1
theorem hB : ∀ b,B.get b ≠ .dead → wrt B b = false := by
 intro b hb
 have hall : ((List.range nb).all fun b => !wrt B b) = true := by kernel_rfl
 rw [List.all_eq_true] at hall
 by_cases h : b < nb
 ·simpa using hall b (List.mem_range.2 h)
 ·exfalso; apply hb
  have hl : (baseList ng 135 S handle).length = nb := by kernel_rfl
  show (heapOf (baseList ng 135 S handle)).get b = .dead
  rw [heapOf_get]
  simp only [List.getD,List.getElem?_eq_none (show (baseList ng 135 S handle).length ≤ b by omega),Option.getD_none]
theorem specS4 {σ : AHeap} {Q : Value → AHeap → Prop} (h : Q (.bool true) σ) : CallS E B 4 [] σ Q := fun H hH => w_special (g := fun args H => if args.isEmpty && sameBase B nb H then some (.bool true,H) else none) rfl (by rw [base_same ⟨hH.base,hH.base⟩]; rfl) ⟨σ,hH,h⟩
theorem ty0 : E.ty.get 0 = some ⟨.other,1,0,none,true⟩ := rfl
theorem ty1 : E.ty.get 1 = some ⟨.func,1,8,some [.func],true⟩ := rfl
theorem ty2 : E.ty.get 2 = some ⟨(.int .i64),1,8,some [.int .i64 0],true⟩ := rfl
theorem ty3 : E.ty.get 3 = some ⟨(.int .i64),1,8,some [.int .i64 0],true⟩ := rfl
theorem ty4 : E.ty.get 4 = some ⟨.bool,1,1,some [.bool false],true⟩ := rfl
theorem ty5 : E.ty.get 5 = some ⟨(.int .u8),1,1,some [.int .u8 0],true⟩ := rfl
theorem ty6 : E.ty.get 6 = some ⟨(.int .u8),1,1,some [.int .u8 0],true⟩ := rfl
theorem ty7 : E.ty.get 7 = some ⟨(.struct [(0,2,false),(1,3,false),(2,4,false),(3,6,false)]),4,24,some [.int .i64 0,.int .i64 0,.bool false,.int .u8 0],true⟩ := rfl
theorem ty8 : E.ty.get 8 = some ⟨(.struct [(0,2,false),(1,3,false),(2,4,false),(3,6,false)]),4,24,some [.int .i64 0,.int .i64 0,.bool false,.int .u8 0],true⟩ := rfl
theorem ty9 : E.ty.get 9 = some ⟨.string,1,16,some [.str],true⟩ := rfl
theorem ty10 : E.ty.get 10 = some ⟨.string,1,16,some [.str],true⟩ := rfl
theorem ty11 : E.ty.get 11 = some ⟨.string,1,16,some [.str],true⟩ := rfl
theorem ty12 : E.ty.get 12 = some ⟨(.int .u64),1,8,some [.int .u64 0],true⟩ := rfl
theorem ty13 : E.ty.get 13 = some ⟨(.struct [(0,9,false),(1,12,false)]),2,24,some [.str,.int .u64 0],false⟩ := rfl
theorem ty14 : E.ty.get 14 = some ⟨(.struct [(0,9,false),(1,12,false)]),2,24,some [.str,.int .u64 0],false⟩ := rfl
theorem ty15 : E.ty.get 15 = some ⟨(.ptr 137),1,8,some [.ptr],true⟩ := rfl
theorem ty16 : E.ty.get 16 = some ⟨(.ptr 140),1,8,some [.ptr],true⟩ := rfl
theorem ty17 : E.ty.get 17 = some ⟨(.ptr 149),1,8,some [.ptr],true⟩ := rfl
theorem ty18 : E.ty.get 18 = some ⟨(.struct [(0,17,false)]),1,8,some [.ptr],false⟩ := rfl
theorem ty19 : E.ty.get 19 = some ⟨(.struct [(0,17,false)]),1,8,some [.ptr],false⟩ := rfl
theorem ty20 : E.ty.get 20 = some ⟨(.iface true),1,16,some [.iface],true⟩ := rfl
theorem ty21 : E.ty.get 21 = some ⟨(.int .i32),1,4,some [.int .i32 0],true⟩ := rfl
theorem ty22 : E.ty.get 22 = some ⟨(.slice 9),1,24,some [.slice],true⟩ := rfl
theorem ty23 : E.ty.get 23 = some ⟨.func,1,8,some [.func],true⟩ := rfl
theorem ty24 : E.ty.get 24 = some ⟨(.slice 30),1,24,some [.slice],true⟩ := rfl
theorem ty25 : E.ty.get 25 = some ⟨.other,1,0,none,true⟩ := rfl
theorem ty26 : E.ty.get 26 = some ⟨.func,1,8,some [.func],true⟩ := rfl
theorem ty27 : E.ty.get 27 = some ⟨.func,1,8,some [.func],true⟩ := rfl
theorem ty28 : E.ty.get 28 = some ⟨(.slice 78),1,24,some [.slice],true⟩ := rfl
theorem ty29 : E.ty.get 29 = some ⟨(.struct [(0,9,false),(1,9,false),(2,3,false),(3,4,false),(4,28,false),(5,9,false),(6,3,false),(7,3,false),(8,9,false)]),9,120,some [.str,.str,.int .i64 0,.bool false,.slice,.str,.int .i64 0,.int .i64 0,.str],true⟩ := rfl
theorem ty30 : E.ty.get 30 = some ⟨(.struct [(0,9,false),(1,9,false),(2,3,false),(3,4,false),(4,28,false),(5,9,false),(6,3,false),(7,3,false),(8,9,false)]),9,120,some [.str,.str,.int .i64 0,.bool false,.slice,.str,.int .i64 0,.int .i64 0,.str],true⟩ := rfl
theorem ty31 : E.ty.get 31 = some ⟨(.struct [(0,3,false),(1,9,false),(2,3,false),(3,30,false)]),12,152,some [.int .i64 0,.str,.int .i64 0,.str,.str,.int .i64 0,.bool false,.slice,.str,.int .i64 0,.int .i64 0,.str],true⟩ := rfl
theorem ty32 : E.ty.get 32 = some ⟨(.struct [(0,3,false),(1,9,false),(2,3,false),(3,30,false)]),12,152,some [.int .i64 0,.str,.int .i64 0,.str,.str,.int .i64 0,.bool false,.slice,.str,.int .i64 0,.int .i64 0,.str],true⟩ := rfl
theorem ty33 : E.ty.get 33 = some ⟨(.iface false),1,16,some [.iface],false⟩ := rfl
theorem ty34 : E.ty.get 34 = some ⟨(.iface false),1,16,some [.iface],false⟩ := rfl
theorem ty35 : E.ty.get 35 = some ⟨.other,1,0,none,true⟩ := rfl
theorem ty36 : E.ty.get 36 = some ⟨.func,1,8,some [.func],true⟩ := rfl
theorem ty37 : E.ty.get 37 = some ⟨.func,1,8,some [.func],true⟩ := rfl
theorem ty38 : E.ty.get 38 = some ⟨.other,1,0,none,true⟩ := rfl
theorem ty39 : E.ty.get 39 = some ⟨.func,1,8,some [.func],true⟩ := rfl
theorem ty40 : E.ty.get 40 = some ⟨.func,1,8,some [.func],true⟩ := rfl
theorem ty41 : E.ty.get 41 = some ⟨.func,1,8,some [.func],true⟩ := rfl
theorem ty42 : E.ty.get 42 = some ⟨.func,1,8,some [.func],true⟩ := rfl
theorem ty43 : E.ty.get 43 = some ⟨.func,1,8,some [.func],true⟩ := rfl
theorem ty44 : E.ty.get 44 = some ⟨.func,1,8,some [.func],true⟩ := rfl
theorem ty45 : E.ty.get 45 = some ⟨.func,1,8,some [.func],true⟩ := rfl
theorem ty46 : E.ty.get 46 = some ⟨(.ptr 66),1,8,some [.ptr],true⟩ := rfl
theorem ty47 : E.ty.get 47 = some ⟨.func,1,8,some [.func],true⟩ := rfl
theorem ty48 : E.ty.get 48 = some ⟨.func,1,8,some [.func],true⟩ := rfl
theorem ty49 : E.ty.get 49 = some ⟨.func,1,8,some [.func],true⟩ := rfl
theorem ty50 : E.ty.get 50 = some ⟨.other,1,0,none,true⟩ := rfl
theorem ty51 : E.ty.get 51 = some ⟨.func,1,8,some [.func],true⟩ := rfl
theorem ty52 : E.ty.get 52 = some ⟨.func,1,8,some [.func],true⟩ := rfl
theorem ty53 : E.ty.get 53 = some ⟨.func,1,8,some [.func],true⟩ := rfl
theorem ty54 : E.ty.get 54 = some ⟨.func,1,8,some [.func],true⟩ := rfl
theorem ty55 : E.ty.get 55 = some ⟨(.ptr 58),1,8,some [.ptr],true⟩ := rfl
theorem ty56 : E.ty.get 56 = some ⟨(.slice 5),1,24,some [.slice],true⟩ := rfl
theorem ty57 : E.ty.get 57 = some ⟨(.struct [(0,56,false),(1,34,false)]),2,40,some [.slice,.iface],false⟩ := rfl
theorem ty58 : E.ty.get 58 = some ⟨(.struct [(0,56,false),(1,34,false)]),2,40,some [.slice,.iface],false⟩ := rfl
theorem ty59 : E.ty.get 59 = some ⟨.func,1,8,some [.func],true⟩ := rfl
theorem ty60 : E.ty.get 60 = some ⟨.func,1,8,some [.func],true⟩ := rfl
theorem ty61 : E.ty.get 61 = some ⟨.func,1,8,some [.func],true⟩ := rfl
theorem ty62 : E.ty.get 62 = some ⟨.func,1,8,some [.func],true⟩ := rfl
theorem ty63 : E.ty.get 63 = some ⟨.func,1,8,some [.func],true⟩ := rfl
theorem ty64 : E.ty.get 64 = some ⟨.func,1,8,some [.func],true⟩ := rfl
theorem ty65 : E.ty.get 65 = some ⟨(.struct [(0,9,false),(1,3,false),(2,34,false)]),3,40,some [.str,.int .i64 0,.iface],false⟩ := rfl
theorem ty66 : E.ty.get 66 = some ⟨(.struct [(0,9,false),(1,3,false),(2,34,false)]),3,40,some [.str,.int .i64 0,.iface],false⟩ := rfl
theorem ty67 : E.ty.get 67 = some ⟨.func,1,8,some [.func],true⟩ := rfl
theorem ty68 : E.ty.get 68 = some ⟨.func,1,8,some [.func],true⟩ := rfl
theorem ty69 : E.ty.get 69 = some ⟨(.int .u64),1,8,some [.int .u64 0],true⟩ := rfl
theorem ty70 : E.ty.get 70 = some ⟨.other,1,0,none,true⟩ := rfl
theorem ty71 : E.ty.get 71 = some ⟨.func,1,8,some [.func],true⟩ := rfl
theorem ty72 : E.ty.get 72 = some ⟨(.ptr 74),1,8,some [.ptr],true⟩ := rfl
theorem ty73 : E.ty.get 73 = some ⟨(.struct [(0,3,false),(1,3,false),(2,34,false)]),3,32,some [.int .i64 0,.int .i64 0,.iface],false⟩ := rfl
theorem ty74 : E.ty.get 74 = some ⟨(.struct [(0,3,false),(1,3,false),(2,34,false)]),3,32,some [.int .i64 0,.int .i64 0,.iface],false⟩ := rfl
theorem ty75 : E.ty.get 75 = some ⟨.func,1,8,some [.func],true⟩ := rfl
theorem ty76 : E.ty.get 76 = some ⟨.func,1,8,some [.func],true⟩ := rfl
theorem ty77 : E.ty.get 77 = some ⟨(.struct [(0,3,false),(1,3,false),(2,9,false),(3,9,false)]),4,48,some [.int .i64 0,.int .i64 0,.str,.str],true⟩ := rfl
theorem ty78 : E.ty.get 78 = some ⟨(.struct [(0,3,false),(1,3,false),(2,9,false),(3,9,false)]),4,48,some [.int .i64 0,.int .i64 0,.str,.str],true⟩ := rfl
theorem ty79 : E.ty.get 79 = some ⟨.other,1,0,none,true⟩ := rfl
theorem ty80 : E.ty.get 80 = some ⟨.func,1,8,some [.func],true⟩ := rfl
theorem ty81 : E.ty.get 81 = some ⟨.func,1,8,some [.func],true⟩ := rfl
theorem ty82 : E.ty.get 82 = some ⟨.func,1,8,some [.func],true⟩ := rfl
theorem ty83 : E.ty.get 83 = some ⟨.func,1,8,some [.func],true⟩ := rfl
theorem ty84 : E.ty.get 84 = some ⟨.func,1,8,some [.func],true⟩ := rfl
theorem ty85 : E.ty.get 85 = some ⟨.other,1,0,none,true⟩ := rfl
theorem ty86 : E.ty.get 86 = some ⟨.func,1,8,some [.func],true⟩ := rfl
theorem ty87 : E.ty.get 87 = some ⟨.func,1,8,some [.func],true⟩ := rfl
theorem ty88 : E.ty.get 88 = some ⟨.func,1,8,some [.func],true⟩ := rfl
theorem ty89 : E.ty.get 89 = some ⟨.func,1,8,some [.func],true⟩ := rfl
theorem ty90 : E.ty.get 90 = some ⟨.func,1,8,some [.func],true⟩ := rfl
theorem ty91 : E.ty.get 91 = some ⟨.func,1,8,some [.func],true⟩ := rfl
theorem ty92 : E.ty.get 92 = some ⟨.func,1,8,some [.func],true⟩ := rfl
theorem ty93 : E.ty.get 93 = some ⟨.func,1,8,some [.func],true⟩ := rfl
theorem ty94 : E.ty.get 94 = some ⟨.func,1,8,some [.func],true⟩ := rfl
theorem ty95 : E.ty.get 95 = some ⟨.func,1,8,some [.func],true⟩ := rfl
theorem ty96 : E.ty.get 96 = some ⟨.func,1,8,some [.func],true⟩ := rfl
theorem ty97 : E.ty.get 97 = some ⟨(.ptr 72),1,8,some [.ptr],true⟩ := rfl
theorem ty98 : E.ty.get 98 = some ⟨.func,1,8,some [.func],true⟩ := rfl
theorem ty99 : E.ty.get 99 = some ⟨.func,1,8,some [.func],true⟩ := rfl
theorem ty100 : E.ty.get 100 = some ⟨(.slice 3),1,24,some [.slice],true⟩ := rfl
theorem ty101 : E.ty.get 101 = some ⟨.func,1,8,some [.func],true⟩ := rfl
theorem ty102 : E.ty.get 102 = some ⟨.other,1,8,some [.ptr],true⟩ := rfl
theorem ty103 : E.ty.get 103 = some ⟨(.int .u64),1,8,some [.int .u64 0],true⟩ := rfl
theorem ty104 : E.ty.get 104 = some ⟨(.struct [(0,17,false),(1,102,false),(2,103,false)]),3,24,some [.ptr,.ptr,.int .u64 0],false⟩ := rfl
theorem ty105 : E.ty.get 105 = some ⟨(.struct [(0,17,false),(1,102,false),(2,103,false)]),3,24,some [.ptr,.ptr,.int .u64 0],false⟩ := rfl
theorem ty106 : E.ty.get 106 = some ⟨.func,1,8,some [.func],true⟩ := rfl
theorem ty107 : E.ty.get 107 = some ⟨(.iface false),1,16,some [.iface],false⟩ := rfl
theorem ty108 : E.ty.get 108 = some ⟨(.iface false),1,16,some [.iface],false⟩ := rfl
theorem ty109 : E.ty.get 109 = some ⟨.func,1,8,some [.func],true⟩ := rfl
theorem ty110 : E.ty.get 110 = some ⟨(.int .u8),1,1,some [.int .u8 0],true⟩ := rfl
theorem ty111 : E.ty.get 111 = some ⟨.func,1,8,some [.func],true⟩ := rfl
theorem ty112 : E.ty.get 112 = some ⟨.func,1,8,some [.func],true⟩ := rfl
theorem ty113 : E.ty.get 113 = some ⟨.func,1,8,some [.func],true⟩ := rfl
theorem ty114 : E.ty.get 114 = some ⟨.other,1,0,none,true⟩ := rfl
theorem ty115 : E.ty.get 115 = some ⟨.func,1,8,some [.func],true⟩ := rfl
theorem ty116 : E.ty.get 116 = some ⟨.func,1,8,some [.func],true⟩ := rfl
theorem ty117 : E.ty.get 117 = some ⟨(.struct [(0,17,false)]),1,8,some [.ptr],false⟩ := rfl
theorem ty118 : E.ty.get 118 = some ⟨(.struct [(0,17,false)]),1,8,some [.ptr],false⟩ := rfl
theorem ty119 : E.ty.get 119 = some ⟨(.ptr 153),1,8,some [.ptr],true⟩ := rfl
theorem ty120 : E.ty.get 120 = some ⟨.func,1,8,some [.func],true⟩ := rfl
theorem ty121 : E.ty.get 121 = some ⟨.func,1,8,some [.func],true⟩ := rfl
theorem ty122 : E.ty.get 122 = some ⟨.func,1,8,some [.func],true⟩ := rfl
theorem ty123 : E.ty.get 123 = some ⟨(.iface false),1,16,some [.iface],false⟩ := rfl
theorem ty124 : E.ty.get 124 = some ⟨.other,1,0,none,true⟩ := rfl
theorem ty125 : E.ty.get 125 = some ⟨.func,1,8,some [.func],true⟩ := rfl
theorem ty126 : E.ty.get 126 = some ⟨(.iface false),1,16,some [.iface],false⟩ := rfl
theorem ty127 : E.ty.get 127 = some ⟨(.iface false),1,16,some [.iface],false⟩ := rfl
theorem ty128 : E.ty.get 128 = some ⟨(.slice 34),1,24,some [.slice],true⟩ := rfl
theorem ty129 : E.ty.get 129 = some ⟨.func,1,8,some [.func],true⟩ := rfl
theorem ty130 : E.ty.get 130 = some ⟨.other,1,0,none,true⟩ := rfl
theorem ty131 : E.ty.get 131 = some ⟨.func,1,8,some [.func],true⟩ := rfl
theorem ty132 : E.ty.get 132 = some ⟨.func,1,8,some [.func],true⟩ := rfl
theorem ty133 : E.ty.get 133 = some ⟨.other,1,0,none,true⟩ := rfl
theorem ty134 : E.ty.get 134 = some ⟨.func,1,8,some [.func],true⟩ := rfl
theorem ty135 : E.ty.get 135 = some ⟨(.ptr 155),1,8,some [.ptr],true⟩ := rfl
theorem ty136 : E.ty.get 136 = some ⟨(.struct [(0,17,false),(1,17,false),(2,17,false),(3,9,false)]),4,40,some [.ptr,.ptr,.ptr,.str],false⟩ := rfl
theorem ty137 : E.ty.get 137 = some ⟨(.struct [(0,17,false),(1,17,false),(2,17,false),(3,9,false)]),4,40,some [.ptr,.ptr,.ptr,.str],false⟩ := rfl
theorem ty138 : E.ty.get 138 = some ⟨(.arr 0 16),0,0,some [],true⟩ := rfl
theorem ty139 : E.ty.get 139 = some ⟨(.struct [(0,138,true)]),0,0,some [],false⟩ := rfl
theorem ty140 : E.ty.get 140 = some ⟨(.struct [(0,138,true)]),0,0,some [],false⟩ := rfl
theorem ty141 : E.ty.get 141 = some ⟨.func,1,8,some [.func],true⟩ := rfl
theorem ty142 : E.ty.get 142 = some ⟨(.int .u32),1,4,some [.int .u32 0],true⟩ := rfl
theorem ty143 : E.ty.get 143 = some ⟨(.int .u8),1,1,some [.int .u8 0],true⟩ := rfl
theorem ty144 : E.ty.get 144 = some ⟨.func,1,8,some [.func],true⟩ := rfl
theorem ty145 : E.ty.get 145 = some ⟨(.ptr 5),1,8,some [.ptr],true⟩ := rfl
theorem ty146 : E.ty.get 146 = some ⟨(.int .i32),1,4,some [.int .i32 0],true⟩ := rfl
theorem ty147 : E.ty.get 147 = some ⟨(.int .i32),1,4,some [.int .i32 0],true⟩ := rfl
theorem ty148 : E.ty.get 148 = some ⟨(.struct [(0,12,false),(1,12,false),(2,142,false),(3,143,false),(4,5,false),(5,5,false),(6,110,false),(7,144,false),(8,145,false),(9,146,false),(10,147,false)]),11,48,some [.int .u64 0,.int .u64 0,.int .u32 0,.int .u8 0,.int .u8 0,.int .u8 0,.int .u8 0,.func,.ptr,.int .i32 0,.int .i32 0],false⟩ := rfl
theorem ty149 : E.ty.get 149 = some ⟨(.struct [(0,12,false),(1,12,false),(2,142,false),(3,143,false),(4,5,false),(5,5,false),(6,110,false),(7,144,false),(8,145,false),(9,146,false),(10,147,false)]),11,48,some [.int .u64 0,.int .u64 0,.int .u32 0,.int .u8 0,.int .u8 0,.int .u8 0,.int .u8 0,.func,.ptr,.int .i32 0,.int .i32 0],false⟩ := rfl
theorem ty150 : E.ty.get 150 = some ⟨.func,1,8,some [.func],true⟩ := rfl
theorem ty151 : E.ty.get 151 = some ⟨.func,1,8,some [.func],true⟩ := rfl
theorem ty152 : E.ty.get 152 = some ⟨(.struct [(0,9,false),(1,110,false)]),2,24,some [.str,.int .u8 0],false⟩ := rfl
theorem ty153 : E.ty.get 153 = some ⟨(.struct [(0,9,false),(1,110,false)]),2,24,some [.str,.int .u8 0],false⟩ := rfl
theorem ty154 : E.ty.get 154 = some ⟨(.struct [(0,9,false)]),1,16,some [.str],true⟩ := rfl
theorem ty155 : E.ty.get 155 = some ⟨(.struct [(0,9,false)]),1,16,some [.str],true⟩ := rfl
theorem ty156 : E.ty.get 156 = some ⟨(.ptr 160),1,8,some [.ptr],true⟩ := rfl
theorem ty157 : E.ty.get 157 = some ⟨.func,1,8,some [.func],true⟩ := rfl
theorem ty158 : E.ty.get 158 = some ⟨(.int .u16),1,2,some [.int .u16 0],true⟩ := rfl
theorem ty159 : E.ty.get 159 = some ⟨(.struct [(0,146,false),(1,158,false),(2,158,false),(3,142,false),(4,142,true)]),5,16,some [.int .i32 0,.int .u16 0,.int .u16 0,.int .u32 0,.int .u32 0],false⟩ := rfl
theorem ty160 : E.ty.get 160 = some ⟨(.struct [(0,146,false),(1,158,false),(2,158,false),(3,142,false),(4,142,true)]),5,16,some [.int .i32 0,.int .u16 0,.int .u16 0,.int .u32 0,.int .u32 0],false⟩ := rfl
theorem ty161 : E.ty.get 161 = some ⟨(.slice 164),1,24,some [.slice],true⟩ := rfl
theorem ty162 : E.ty.get 162 = some ⟨(.int .i32),1,4,some [.int .i32 0],true⟩ := rfl
theorem ty163 : E.ty.get 163 = some ⟨(.struct [(0,146,false),(1,147,false),(2,162,false),(3,162,false)]),4,16,some [.int .i32 0,.int .i32 0,.int .i32 0,.int .i32 0],false⟩ := rfl
theorem ty164 : E.ty.get 164 = some ⟨(.struct [(0,146,false),(1,147,false),(2,162,false),(3,162,false)]),4,16,some [.int .i32 0,.int .i32 0,.int .i32 0,.int .i32 0],false⟩ := rfl
theorem ty165 : E.ty.get 165 = some ⟨(.ptr 34),1,8,some [.ptr],true⟩ := rfl
set_option linter.defProp false in
def tyB := And.intro ty0 <| And.intro ty1 <| And.intro ty2 <| And.intro ty3 <| And.intro ty4 <| And.intro ty5 <| And.intro ty6 <| And.intro ty7 <| And.intro ty8 <| And.intro ty9 <| And.intro ty10 <| And.intro ty11 <| And.intro ty12 <| And.intro ty13 <| And.intro ty14 <| And.intro ty15 <| And.intro ty16 <| And.intro ty17 <| And.intro ty18 <| And.intro ty19 <| And.intro ty20 <| And.intro ty21 <| And.intro ty22 <| And.intro ty23 <| And.intro ty24 <| And.intro ty25 <| And.intro ty26 <| And.intro ty27 <| And.intro ty28 <| And.intro ty29 <| And.intro ty30 <| And.intro ty31 <| And.intro ty32 <| And.intro ty33 <| And.intro ty34 <| And.intro ty35 <| And.intro ty36 <| And.intro ty37 <| And.intro ty38 <| And.intro ty39 <| And.intro ty40 <| And.intro ty41 <| And.intro ty42 <| And.intro ty43 <| And.intro ty44 <| And.intro ty45 <| And.intro ty46 <| And.intro ty47 <| And.intro ty48 <| And.intro ty49 <| And.intro ty50 <| And.intro ty51 <| And.intro ty52 <| And.intro ty53 <| And.intro ty54 <| And.intro ty55 <| And.intro ty56 <| And.intro ty57 <| And.intro ty58 <| And.intro ty59 <| And.intro ty60 <| And.intro ty61 <| And.intro ty62 <| And.intro ty63 <| And.intro ty64 <| And.intro ty65 <| And.intro ty66 <| And.intro ty67 <| And.intro ty68 <| And.intro ty69 <| And.intro ty70 <| And.intro ty71 <| And.intro ty72 <| And.intro ty73 <| And.intro ty74 <| And.intro ty75 <| And.intro ty76 <| And.intro ty77 <| And.intro ty78 <| And.intro ty79 <| And.intro ty80 <| And.intro ty81 <| And.intro ty82 <| And.intro ty83 <| And.intro ty84 <| And.intro ty85 <| And.intro ty86 <| And.intro ty87 <| And.intro ty88 <| And.intro ty89 <| And.intro ty90 <| And.intro ty91 <| And.intro ty92 <| And.intro ty93 <| And.intro ty94 <| And.intro ty95 <| And.intro ty96 <| And.intro ty97 <| And.intro ty98 <| And.intro ty99 <| And.intro ty100 <| And.intro ty101 <| And.intro ty102 <| And.intro ty103 <| And.intro ty104 <| And.intro ty105 <| And.intro ty106 <| And.intro ty107 <| And.intro ty108 <| And.intro ty109 <| And.intro ty110 <| And.intro ty111 <| And.intro ty112 <| And.intro ty113 <| And.intro ty114 <| And.intro ty115 <| And.intro ty116 <| And.intro ty117 <| And.intro ty118 <| And.intro ty119 <| And.intro ty120 <| And.intro ty121 <| And.intro ty122 <| And.intro ty123 <| And.intro ty124 <| And.intro ty125 <| And.intro ty126 <| And.intro ty127 <| And.intro ty128 <| And.intro ty129 <| And.intro ty130 <| And.intro ty131 <| And.intro ty132 <| And.intro ty133 <| And.intro ty134 <| And.intro ty135 <| And.intro ty136 <| And.intro ty137 <| And.intro ty138 <| And.intro ty139 <| And.intro ty140 <| And.intro ty141 <| And.intro ty142 <| And.intro ty143 <| And.intro ty144 <| And.intro ty145 <| And.intro ty146 <| And.intro ty147 <| And.intro ty148 <| And.intro ty149 <| And.intro ty150 <| And.intro ty151 <| And.intro ty152 <| And.intro ty153 <| And.intro ty154 <| And.intro ty155 <| And.intro ty156 <| And.intro ty157 <| And.intro ty158 <| And.intro ty159 <| And.intro ty160 <| And.intro ty161 <| And.intro ty162 <| And.intro ty163 <| And.intro ty164 <| ty165
theorem Edp : E.dp = dp := rfl
theorem dpv : dp 22 = true ∧ dp 24 = false ∧ dp 28 = true ∧ dp 30 = true ∧ dp 32 = true ∧ dp 56 = false ∧ dp 74 = true ∧ dp 78 = true ∧ dp 100 = true ∧ dp 128 = true ∧ dp 161 = false ∧ True := ⟨rfl,rfl,rfl,rfl,rfl,rfl,rfl,rfl,rfl,rfl,rfl,trivial⟩
def sblk : Nat → Nat := fun n => ([6,7,8,9,10,10,10] : List Nat).getD (n - 1) 0
end Go.Proofs.YtkhcbbpfchgemaaDoor.AbsB
