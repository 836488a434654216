/-
  A part of a law's proof.
-/
import Derived.Test.YtkhcbbpfchgemaaGreatDoorAEnvB
import Derived.Test.YtkhcbbpfchgemaaGreatDoorAMf
import Derived.Test.YtkhcbbpfchgemaaGreatDoorAWak8
import Derived.Test.YtkhcbbpfchgemaaGreatDoorAWak32
namespace Go.Proofs.YtkhcbbpfchgemaaGreatDoor.AbsA
open Go AbsYtkhcbbpfchgemaaGreatDoor Abs
set_option maxRecDepth 100000
set_option maxHeartbeats 4000000
noncomputable def E : Env := E1.worked B [(8,.bool true),(32,.bool true)]
theorem env_ok : EnvOk E := EnvOk.withOf env1_ok env10_ok rfl rfl rfl (by kernel_rfl) _ (by
 intro p hp
 simp only [List.mem_cons,List.not_mem_nil,or_false] at hp
 rcases hp with rfl | rfl
 ·obtain ⟨H,h⟩ := isT_some awake8; exact ⟨rfl,300,H,h⟩
 ·obtain ⟨H,h⟩ := isT_some awake32; exact ⟨rfl,300,H,h⟩)
theorem base_same {H : AHeap} (h : Holds B B H) : sameBase B nb H = true := by
 simp only [sameBase,List.all_eq_true,List.mem_range]
 intro b hb
 split
 ·rfl
 ·rename_i hne
  exact oeq_of (h.base b hne).1
theorem hB : ∀ b,B.get b ≠ .dead → wrt B b = false := by
 intro b hb
 have hall : ((List.range nb).all fun b => !wrt B b) = true := by kernel_rfl
 rw [List.all_eq_true] at hall
 by_cases h : b < nb
 ·simpa using hall b (List.mem_range.2 h)
 ·exfalso; apply hb
  have hl : (baseList ng 306 S handle).length = nb := by kernel_rfl
  show (heapOf (baseList ng 306 S handle)).get b = .dead
  rw [heapOf_get]
  simp only [List.getD,List.getElem?_eq_none (show (baseList ng 306 S handle).length ≤ b by omega),Option.getD_none]
theorem specS32 {σ : AHeap} {Q : Value → AHeap → Prop} (h : Q (.bool true) σ) : CallS E B 32 [] σ Q := fun H hH => w_special (g := fun args H => if args.isEmpty && sameBase B nb H then some (.bool true,H) else none) rfl (by rw [base_same ⟨hH.base,hH.base⟩]; rfl) ⟨σ,hH,h⟩
theorem ty0 : E.ty.get 0 = some ⟨.other,1,0,none,true⟩ := rfl
theorem ty1 : E.ty.get 1 = some ⟨.func,1,8,some [.func],true⟩ := rfl
theorem ty2 : E.ty.get 2 = some ⟨(.int .i64),1,8,some [.int .i64 0],true⟩ := rfl
theorem ty3 : E.ty.get 3 = some ⟨(.int .i64),1,8,some [.int .i64 0],true⟩ := rfl
theorem ty4 : E.ty.get 4 = some ⟨.bool,1,1,some [.bool false],true⟩ := rfl
theorem ty5 : E.ty.get 5 = some ⟨(.int .u8),1,1,some [.int .u8 0],true⟩ := rfl
theorem ty6 : E.ty.get 6 = some ⟨(.int .u8),1,1,some [.int .u8 0],true⟩ := rfl
theorem ty7 : E.ty.get 7 = some ⟨(.struct [(0,2,false),(1,3,false),(2,4,false),(3,6,false)]),4,24,some [.int .i64 0,.int .i64 0,.bool false,.int .u8 0],true⟩ := rfl
theorem ty8 : E.ty.get 8 = some ⟨(.struct [(0,2,false),(1,3,false),(2,4,false),(3,6,false)]),4,24,some [.int .i64 0,.int .i64 0,.bool false,.int .u8 0],true⟩ := rfl
theorem ty9 : E.ty.get 9 = some ⟨.string,1,16,some [.str],true⟩ := rfl
theorem ty10 : E.ty.get 10 = some ⟨.string,1,16,some [.str],true⟩ := rfl
theorem ty11 : E.ty.get 11 = some ⟨.string,1,16,some [.str],true⟩ := rfl
theorem ty12 : E.ty.get 12 = some ⟨(.int .u64),1,8,some [.int .u64 0],true⟩ := rfl
theorem ty13 : E.ty.get 13 = some ⟨(.struct [(0,9,false),(1,12,false)]),2,24,some [.str,.int .u64 0],false⟩ := rfl
theorem ty14 : E.ty.get 14 = some ⟨(.struct [(0,9,false),(1,12,false)]),2,24,some [.str,.int .u64 0],false⟩ := rfl
theorem ty15 : E.ty.get 15 = some ⟨(.ptr 308),1,8,some [.ptr],true⟩ := rfl
theorem ty16 : E.ty.get 16 = some ⟨(.ptr 311),1,8,some [.ptr],true⟩ := rfl
theorem ty17 : E.ty.get 17 = some ⟨(.ptr 320),1,8,some [.ptr],true⟩ := rfl
theorem ty18 : E.ty.get 18 = some ⟨(.struct [(0,17,false)]),1,8,some [.ptr],false⟩ := rfl
theorem ty19 : E.ty.get 19 = some ⟨(.struct [(0,17,false)]),1,8,some [.ptr],false⟩ := rfl
theorem ty20 : E.ty.get 20 = some ⟨(.iface true),1,16,some [.iface],true⟩ := rfl
theorem ty21 : E.ty.get 21 = some ⟨(.int .i32),1,4,some [.int .i32 0],true⟩ := rfl
theorem ty22 : E.ty.get 22 = some ⟨(.slice 9),1,24,some [.slice],true⟩ := rfl
theorem ty23 : E.ty.get 23 = some ⟨(.slice 28),1,24,some [.slice],true⟩ := rfl
theorem ty24 : E.ty.get 24 = some ⟨.func,1,8,some [.func],true⟩ := rfl
theorem ty25 : E.ty.get 25 = some ⟨.func,1,8,some [.func],true⟩ := rfl
theorem ty26 : E.ty.get 26 = some ⟨(.slice 158),1,24,some [.slice],true⟩ := rfl
theorem ty27 : E.ty.get 27 = some ⟨(.struct [(0,9,false),(1,9,false),(2,3,false),(3,4,false),(4,26,false),(5,9,false),(6,3,false),(7,3,false),(8,9,false)]),9,120,some [.str,.str,.int .i64 0,.bool false,.slice,.str,.int .i64 0,.int .i64 0,.str],true⟩ := rfl
theorem ty28 : E.ty.get 28 = some ⟨(.struct [(0,9,false),(1,9,false),(2,3,false),(3,4,false),(4,26,false),(5,9,false),(6,3,false),(7,3,false),(8,9,false)]),9,120,some [.str,.str,.int .i64 0,.bool false,.slice,.str,.int .i64 0,.int .i64 0,.str],true⟩ := rfl
theorem ty29 : E.ty.get 29 = some ⟨.other,1,0,none,true⟩ := rfl
theorem ty30 : E.ty.get 30 = some ⟨.func,1,8,some [.func],true⟩ := rfl
theorem ty31 : E.ty.get 31 = some ⟨.func,1,8,some [.func],true⟩ := rfl
theorem ty32 : E.ty.get 32 = some ⟨.func,1,8,some [.func],true⟩ := rfl
theorem ty33 : E.ty.get 33 = some ⟨.func,1,8,some [.func],true⟩ := rfl
theorem ty34 : E.ty.get 34 = some ⟨.func,1,8,some [.func],true⟩ := rfl
theorem ty35 : E.ty.get 35 = some ⟨(.struct [(0,3,false),(1,9,false),(2,3,false),(3,28,false)]),12,152,some [.int .i64 0,.str,.int .i64 0,.str,.str,.int .i64 0,.bool false,.slice,.str,.int .i64 0,.int .i64 0,.str],true⟩ := rfl
theorem ty36 : E.ty.get 36 = some ⟨(.struct [(0,3,false),(1,9,false),(2,3,false),(3,28,false)]),12,152,some [.int .i64 0,.str,.int .i64 0,.str,.str,.int .i64 0,.bool false,.slice,.str,.int .i64 0,.int .i64 0,.str],true⟩ := rfl
theorem ty37 : E.ty.get 37 = some ⟨(.iface false),1,16,some [.iface],false⟩ := rfl
theorem ty38 : E.ty.get 38 = some ⟨(.iface false),1,16,some [.iface],false⟩ := rfl
theorem ty39 : E.ty.get 39 = some ⟨.other,1,0,none,true⟩ := rfl
theorem ty40 : E.ty.get 40 = some ⟨.func,1,8,some [.func],true⟩ := rfl
theorem ty41 : E.ty.get 41 = some ⟨(.int .i64),1,8,some [.int .i64 0],true⟩ := rfl
theorem ty42 : E.ty.get 42 = some ⟨(.struct [(0,41,false),(1,3,false),(2,3,false)]),3,24,some [.int .i64 0,.int .i64 0,.int .i64 0],true⟩ := rfl
theorem ty43 : E.ty.get 43 = some ⟨(.struct [(0,41,false),(1,3,false),(2,3,false)]),3,24,some [.int .i64 0,.int .i64 0,.int .i64 0],true⟩ := rfl
theorem ty44 : E.ty.get 44 = some ⟨.other,1,0,none,true⟩ := rfl
theorem ty45 : E.ty.get 45 = some ⟨.func,1,8,some [.func],true⟩ := rfl
theorem ty46 : E.ty.get 46 = some ⟨.func,1,8,some [.func],true⟩ := rfl
theorem ty47 : E.ty.get 47 = some ⟨.func,1,8,some [.func],true⟩ := rfl
theorem ty48 : E.ty.get 48 = some ⟨.func,1,8,some [.func],true⟩ := rfl
theorem ty49 : E.ty.get 49 = some ⟨(.struct [(0,4,false),(1,9,false),(2,9,false),(3,3,false),(4,4,false),(5,26,false)]),6,80,some [.bool false,.str,.str,.int .i64 0,.bool false,.slice],true⟩ := rfl
theorem ty50 : E.ty.get 50 = some ⟨(.struct [(0,4,false),(1,9,false),(2,9,false),(3,3,false),(4,4,false),(5,26,false)]),6,80,some [.bool false,.str,.str,.int .i64 0,.bool false,.slice],true⟩ := rfl
theorem ty51 : E.ty.get 51 = some ⟨(.slice 124),1,24,some [.slice],true⟩ := rfl
theorem ty52 : E.ty.get 52 = some ⟨(.slice 3),1,24,some [.slice],true⟩ := rfl
theorem ty53 : E.ty.get 53 = some ⟨(.struct [(0,3,false),(1,3,false),(2,3,false),(3,26,false),(4,4,false),(5,3,false),(6,9,false),(7,50,false),(13,4,false),(14,9,false),(15,4,false),(16,9,false),(17,4,false),(18,9,false),(19,9,false),(20,3,false),(21,4,false),(22,4,false),(23,51,false),(24,22,false),(25,52,false)]),26,336,some [.int .i64 0,.int .i64 0,.int .i64 0,.slice,.bool false,.int .i64 0,.str,.bool false,.str,.str,.int .i64 0,.bool false,.slice,.bool false,.str,.bool false,.str,.bool false,.str,.str,.int .i64 0,.bool false,.bool false,.slice,.slice,.slice],true⟩ := rfl
theorem ty54 : E.ty.get 54 = some ⟨(.struct [(0,3,false),(1,3,false),(2,3,false),(3,26,false),(4,4,false),(5,3,false),(6,9,false),(7,50,false),(13,4,false),(14,9,false),(15,4,false),(16,9,false),(17,4,false),(18,9,false),(19,9,false),(20,3,false),(21,4,false),(22,4,false),(23,51,false),(24,22,false),(25,52,false)]),26,336,some [.int .i64 0,.int .i64 0,.int .i64 0,.slice,.bool false,.int .i64 0,.str,.bool false,.str,.str,.int .i64 0,.bool false,.slice,.bool false,.str,.bool false,.str,.bool false,.str,.str,.int .i64 0,.bool false,.bool false,.slice,.slice,.slice],true⟩ := rfl
theorem ty55 : E.ty.get 55 = some ⟨.func,1,8,some [.func],true⟩ := rfl
theorem ty56 : E.ty.get 56 = some ⟨.other,1,0,none,true⟩ := rfl
theorem ty57 : E.ty.get 57 = some ⟨.func,1,8,some [.func],true⟩ := rfl
theorem ty58 : E.ty.get 58 = some ⟨.other,1,0,none,true⟩ := rfl
theorem ty59 : E.ty.get 59 = some ⟨.func,1,8,some [.func],true⟩ := rfl
theorem ty60 : E.ty.get 60 = some ⟨.func,1,8,some [.func],true⟩ := rfl
theorem ty61 : E.ty.get 61 = some ⟨(.slice 54),1,24,some [.slice],true⟩ := rfl
theorem ty62 : E.ty.get 62 = some ⟨.other,1,0,none,true⟩ := rfl
theorem ty63 : E.ty.get 63 = some ⟨.func,1,8,some [.func],true⟩ := rfl
theorem ty64 : E.ty.get 64 = some ⟨.func,1,8,some [.func],true⟩ := rfl
theorem ty65 : E.ty.get 65 = some ⟨.func,1,8,some [.func],true⟩ := rfl
theorem ty66 : E.ty.get 66 = some ⟨.func,1,8,some [.func],true⟩ := rfl
theorem ty67 : E.ty.get 67 = some ⟨.func,1,8,some [.func],true⟩ := rfl
theorem ty68 : E.ty.get 68 = some ⟨.func,1,8,some [.func],true⟩ := rfl
theorem ty69 : E.ty.get 69 = some ⟨(.struct [(0,3,false),(1,3,false),(2,3,false),(3,3,false),(4,3,false),(5,4,false)]),6,48,some [.int .i64 0,.int .i64 0,.int .i64 0,.int .i64 0,.int .i64 0,.bool false],true⟩ := rfl
theorem ty70 : E.ty.get 70 = some ⟨(.struct [(0,3,false),(1,3,false),(2,3,false),(3,3,false),(4,3,false),(5,4,false)]),6,48,some [.int .i64 0,.int .i64 0,.int .i64 0,.int .i64 0,.int .i64 0,.bool false],true⟩ := rfl
theorem ty71 : E.ty.get 71 = some ⟨(.struct [(0,3,false),(1,9,false),(2,54,false),(28,70,false),(34,3,false),(35,4,false)]),36,424,some [.int .i64 0,.str,.int .i64 0,.int .i64 0,.int .i64 0,.slice,.bool false,.int .i64 0,.str,.bool false,.str,.str,.int .i64 0,.bool false,.slice,.bool false,.str,.bool false,.str,.bool false,.str,.str,.int .i64 0,.bool false,.bool false,.slice,.slice,.slice,.int .i64 0,.int .i64 0,.int .i64 0,.int .i64 0,.int .i64 0,.bool false,.int .i64 0,.bool false],true⟩ := rfl
theorem ty72 : E.ty.get 72 = some ⟨(.struct [(0,3,false),(1,9,false),(2,54,false),(28,70,false),(34,3,false),(35,4,false)]),36,424,some [.int .i64 0,.str,.int .i64 0,.int .i64 0,.int .i64 0,.slice,.bool false,.int .i64 0,.str,.bool false,.str,.str,.int .i64 0,.bool false,.slice,.bool false,.str,.bool false,.str,.bool false,.str,.str,.int .i64 0,.bool false,.bool false,.slice,.slice,.slice,.int .i64 0,.int .i64 0,.int .i64 0,.int .i64 0,.int .i64 0,.bool false,.int .i64 0,.bool false],true⟩ := rfl
theorem ty73 : E.ty.get 73 = some ⟨.func,1,8,some [.func],true⟩ := rfl
theorem ty74 : E.ty.get 74 = some ⟨(.slice 72),1,24,some [.slice],true⟩ := rfl
theorem ty75 : E.ty.get 75 = some ⟨(.ptr 81),1,8,some [.ptr],true⟩ := rfl
theorem ty76 : E.ty.get 76 = some ⟨(.ptr 192),1,8,some [.ptr],true⟩ := rfl
theorem ty77 : E.ty.get 77 = some ⟨(.ptr 208),1,8,some [.ptr],true⟩ := rfl
theorem ty78 : E.ty.get 78 = some ⟨(.ptr 202),1,8,some [.ptr],true⟩ := rfl
theorem ty79 : E.ty.get 79 = some ⟨(.slice 152),1,24,some [.slice],true⟩ := rfl
theorem ty80 : E.ty.get 80 = some ⟨(.struct [(0,4,false),(1,3,false),(2,76,false),(3,38,false),(4,9,false),(5,70,false),(11,77,false),(12,78,false),(13,9,false),(14,79,false),(15,3,false)]),16,168,some [.bool false,.int .i64 0,.ptr,.iface,.str,.int .i64 0,.int .i64 0,.int .i64 0,.int .i64 0,.int .i64 0,.bool false,.ptr,.ptr,.str,.slice,.int .i64 0],false⟩ := rfl
theorem ty81 : E.ty.get 81 = some ⟨(.struct [(0,4,false),(1,3,false),(2,76,false),(3,38,false),(4,9,false),(5,70,false),(11,77,false),(12,78,false),(13,9,false),(14,79,false),(15,3,false)]),16,168,some [.bool false,.int .i64 0,.ptr,.iface,.str,.int .i64 0,.int .i64 0,.int .i64 0,.int .i64 0,.int .i64 0,.bool false,.ptr,.ptr,.str,.slice,.int .i64 0],false⟩ := rfl
theorem ty82 : E.ty.get 82 = some ⟨(.slice 75),1,24,some [.slice],true⟩ := rfl
theorem ty83 : E.ty.get 83 = some ⟨.func,1,8,some [.func],true⟩ := rfl
theorem ty84 : E.ty.get 84 = some ⟨.func,1,8,some [.func],true⟩ := rfl
theorem ty85 : E.ty.get 85 = some ⟨.func,1,8,some [.func],true⟩ := rfl
theorem ty86 : E.ty.get 86 = some ⟨.other,1,0,none,true⟩ := rfl
theorem ty87 : E.ty.get 87 = some ⟨.func,1,8,some [.func],true⟩ := rfl
theorem ty88 : E.ty.get 88 = some ⟨.func,1,8,some [.func],true⟩ := rfl
theorem ty89 : E.ty.get 89 = some ⟨.func,1,8,some [.func],true⟩ := rfl
theorem ty90 : E.ty.get 90 = some ⟨.func,1,8,some [.func],true⟩ := rfl
theorem ty91 : E.ty.get 91 = some ⟨.func,1,8,some [.func],true⟩ := rfl
theorem ty92 : E.ty.get 92 = some ⟨.func,1,8,some [.func],true⟩ := rfl
theorem ty93 : E.ty.get 93 = some ⟨.func,1,8,some [.func],true⟩ := rfl
theorem ty94 : E.ty.get 94 = some ⟨(.slice 156),1,24,some [.slice],true⟩ := rfl
theorem ty95 : E.ty.get 95 = some ⟨(.struct [(0,3,false),(1,94,false)]),2,32,some [.int .i64 0,.slice],true⟩ := rfl
theorem ty96 : E.ty.get 96 = some ⟨(.struct [(0,3,false),(1,94,false)]),2,32,some [.int .i64 0,.slice],true⟩ := rfl
theorem ty97 : E.ty.get 97 = some ⟨.func,1,8,some [.func],true⟩ := rfl
theorem ty98 : E.ty.get 98 = some ⟨.func,1,8,some [.func],true⟩ := rfl
theorem ty99 : E.ty.get 99 = some ⟨.func,1,8,some [.func],true⟩ := rfl
theorem ty100 : E.ty.get 100 = some ⟨.func,1,8,some [.func],true⟩ := rfl
theorem ty101 : E.ty.get 101 = some ⟨.func,1,8,some [.func],true⟩ := rfl
theorem ty102 : E.ty.get 102 = some ⟨.func,1,8,some [.func],true⟩ := rfl
theorem ty103 : E.ty.get 103 = some ⟨.func,1,8,some [.func],true⟩ := rfl
theorem ty104 : E.ty.get 104 = some ⟨.func,1,8,some [.func],true⟩ := rfl
theorem ty105 : E.ty.get 105 = some ⟨.func,1,8,some [.func],true⟩ := rfl
theorem ty106 : E.ty.get 106 = some ⟨.func,1,8,some [.func],true⟩ := rfl
theorem ty107 : E.ty.get 107 = some ⟨(.ptr 175),1,8,some [.ptr],true⟩ := rfl
theorem ty108 : E.ty.get 108 = some ⟨.func,1,8,some [.func],true⟩ := rfl
theorem ty109 : E.ty.get 109 = some ⟨.func,1,8,some [.func],true⟩ := rfl
theorem ty110 : E.ty.get 110 = some ⟨.other,1,0,none,true⟩ := rfl
theorem ty111 : E.ty.get 111 = some ⟨.func,1,8,some [.func],true⟩ := rfl
theorem ty112 : E.ty.get 112 = some ⟨.func,1,8,some [.func],true⟩ := rfl
theorem ty113 : E.ty.get 113 = some ⟨.func,1,8,some [.func],true⟩ := rfl
theorem ty114 : E.ty.get 114 = some ⟨.func,1,8,some [.func],true⟩ := rfl
theorem ty115 : E.ty.get 115 = some ⟨(.ptr 117),1,8,some [.ptr],true⟩ := rfl
theorem ty116 : E.ty.get 116 = some ⟨(.struct [(0,9,false),(1,3,false),(2,41,false),(3,3,false)]),4,40,some [.str,.int .i64 0,.int .i64 0,.int .i64 0],true⟩ := rfl
theorem ty117 : E.ty.get 117 = some ⟨(.struct [(0,9,false),(1,3,false),(2,41,false),(3,3,false)]),4,40,some [.str,.int .i64 0,.int .i64 0,.int .i64 0],true⟩ := rfl
theorem ty118 : E.ty.get 118 = some ⟨.other,1,0,none,true⟩ := rfl
theorem ty119 : E.ty.get 119 = some ⟨.func,1,8,some [.func],true⟩ := rfl
theorem ty120 : E.ty.get 120 = some ⟨.other,1,0,none,true⟩ := rfl
theorem ty121 : E.ty.get 121 = some ⟨.func,1,8,some [.func],true⟩ := rfl
theorem ty122 : E.ty.get 122 = some ⟨.func,1,8,some [.func],true⟩ := rfl
theorem ty123 : E.ty.get 123 = some ⟨(.struct [(0,9,false),(1,3,false),(2,4,false),(3,4,false),(4,3,false)]),5,40,some [.str,.int .i64 0,.bool false,.bool false,.int .i64 0],true⟩ := rfl
theorem ty124 : E.ty.get 124 = some ⟨(.struct [(0,9,false),(1,3,false),(2,4,false),(3,4,false),(4,3,false)]),5,40,some [.str,.int .i64 0,.bool false,.bool false,.int .i64 0],true⟩ := rfl
theorem ty125 : E.ty.get 125 = some ⟨.other,1,0,none,true⟩ := rfl
theorem ty126 : E.ty.get 126 = some ⟨.func,1,8,some [.func],true⟩ := rfl
theorem ty127 : E.ty.get 127 = some ⟨(.struct [(0,3,false),(1,9,false)]),2,24,some [.int .i64 0,.str],true⟩ := rfl
theorem ty128 : E.ty.get 128 = some ⟨(.struct [(0,3,false),(1,9,false)]),2,24,some [.int .i64 0,.str],true⟩ := rfl
theorem ty129 : E.ty.get 129 = some ⟨.other,1,0,none,true⟩ := rfl
theorem ty130 : E.ty.get 130 = some ⟨.func,1,8,some [.func],true⟩ := rfl
theorem ty131 : E.ty.get 131 = some ⟨.func,1,8,some [.func],true⟩ := rfl
theorem ty132 : E.ty.get 132 = some ⟨.other,1,0,none,true⟩ := rfl
theorem ty133 : E.ty.get 133 = some ⟨.func,1,8,some [.func],true⟩ := rfl
theorem ty134 : E.ty.get 134 = some ⟨.func,1,8,some [.func],true⟩ := rfl
theorem ty135 : E.ty.get 135 = some ⟨.func,1,8,some [.func],true⟩ := rfl
theorem ty136 : E.ty.get 136 = some ⟨.other,1,0,none,true⟩ := rfl
theorem ty137 : E.ty.get 137 = some ⟨.func,1,8,some [.func],true⟩ := rfl
theorem ty138 : E.ty.get 138 = some ⟨.func,1,8,some [.func],true⟩ := rfl
theorem ty139 : E.ty.get 139 = some ⟨.func,1,8,some [.func],true⟩ := rfl
theorem ty140 : E.ty.get 140 = some ⟨.func,1,8,some [.func],true⟩ := rfl
theorem ty141 : E.ty.get 141 = some ⟨.func,1,8,some [.func],true⟩ := rfl
theorem ty142 : E.ty.get 142 = some ⟨(.slice 38),1,24,some [.slice],true⟩ := rfl
theorem ty143 : E.ty.get 143 = some ⟨.func,1,8,some [.func],true⟩ := rfl
theorem ty144 : E.ty.get 144 = some ⟨.func,1,8,some [.func],true⟩ := rfl
theorem ty145 : E.ty.get 145 = some ⟨(.struct [(0,3,false),(1,3,false),(2,3,false),(3,3,false),(4,3,false),(5,3,false),(6,3,false),(7,3,false),(8,3,false),(9,3,false),(10,3,false),(11,3,false),(12,3,false)]),13,104,some [.int .i64 0,.int .i64 0,.int .i64 0,.int .i64 0,.int .i64 0,.int .i64 0,.int .i64 0,.int .i64 0,.int .i64 0,.int .i64 0,.int .i64 0,.int .i64 0,.int .i64 0],true⟩ := rfl
theorem ty146 : E.ty.get 146 = some ⟨(.struct [(0,3,false),(1,3,false),(2,3,false),(3,3,false),(4,3,false),(5,3,false),(6,3,false),(7,3,false),(8,3,false),(9,3,false),(10,3,false),(11,3,false),(12,3,false)]),13,104,some [.int .i64 0,.int .i64 0,.int .i64 0,.int .i64 0,.int .i64 0,.int .i64 0,.int .i64 0,.int .i64 0,.int .i64 0,.int .i64 0,.int .i64 0,.int .i64 0,.int .i64 0],true⟩ := rfl
theorem ty147 : E.ty.get 147 = some ⟨.func,1,8,some [.func],true⟩ := rfl
theorem ty148 : E.ty.get 148 = some ⟨.func,1,8,some [.func],true⟩ := rfl
theorem ty149 : E.ty.get 149 = some ⟨.func,1,8,some [.func],true⟩ := rfl
theorem ty150 : E.ty.get 150 = some ⟨.func,1,8,some [.func],true⟩ := rfl
theorem ty151 : E.ty.get 151 = some ⟨(.struct [(0,54,false),(26,4,false)]),27,344,some [.int .i64 0,.int .i64 0,.int .i64 0,.slice,.bool false,.int .i64 0,.str,.bool false,.str,.str,.int .i64 0,.bool false,.slice,.bool false,.str,.bool false,.str,.bool false,.str,.str,.int .i64 0,.bool false,.bool false,.slice,.slice,.slice,.bool false],true⟩ := rfl
theorem ty152 : E.ty.get 152 = some ⟨(.struct [(0,54,false),(26,4,false)]),27,344,some [.int .i64 0,.int .i64 0,.int .i64 0,.slice,.bool false,.int .i64 0,.str,.bool false,.str,.str,.int .i64 0,.bool false,.slice,.bool false,.str,.bool false,.str,.bool false,.str,.str,.int .i64 0,.bool false,.bool false,.slice,.slice,.slice,.bool false],true⟩ := rfl
theorem ty153 : E.ty.get 153 = some ⟨.func,1,8,some [.func],true⟩ := rfl
theorem ty154 : E.ty.get 154 = some ⟨(.ptr 96),1,8,some [.ptr],true⟩ := rfl
theorem ty155 : E.ty.get 155 = some ⟨(.struct [(0,3,false),(1,9,false)]),2,24,some [.int .i64 0,.str],true⟩ := rfl
theorem ty156 : E.ty.get 156 = some ⟨(.struct [(0,3,false),(1,9,false)]),2,24,some [.int .i64 0,.str],true⟩ := rfl
theorem ty157 : E.ty.get 157 = some ⟨(.struct [(0,3,false),(1,3,false),(2,9,false),(3,9,false)]),4,48,some [.int .i64 0,.int .i64 0,.str,.str],true⟩ := rfl
theorem ty158 : E.ty.get 158 = some ⟨(.struct [(0,3,false),(1,3,false),(2,9,false),(3,9,false)]),4,48,some [.int .i64 0,.int .i64 0,.str,.str],true⟩ := rfl
theorem ty159 : E.ty.get 159 = some ⟨.other,1,0,none,true⟩ := rfl
theorem ty160 : E.ty.get 160 = some ⟨.func,1,8,some [.func],true⟩ := rfl
theorem ty161 : E.ty.get 161 = some ⟨(.ptr 164),1,8,some [.ptr],true⟩ := rfl
theorem ty162 : E.ty.get 162 = some ⟨(.slice 5),1,24,some [.slice],true⟩ := rfl
theorem ty163 : E.ty.get 163 = some ⟨(.struct [(0,162,false),(1,38,false)]),2,40,some [.slice,.iface],false⟩ := rfl
theorem ty164 : E.ty.get 164 = some ⟨(.struct [(0,162,false),(1,38,false)]),2,40,some [.slice,.iface],false⟩ := rfl
theorem ty165 : E.ty.get 165 = some ⟨.func,1,8,some [.func],true⟩ := rfl
theorem ty166 : E.ty.get 166 = some ⟨.func,1,8,some [.func],true⟩ := rfl
theorem ty167 : E.ty.get 167 = some ⟨(.ptr 169),1,8,some [.ptr],true⟩ := rfl
theorem ty168 : E.ty.get 168 = some ⟨(.struct [(0,9,false),(1,41,false),(2,3,false)]),3,32,some [.str,.int .i64 0,.int .i64 0],true⟩ := rfl
theorem ty169 : E.ty.get 169 = some ⟨(.struct [(0,9,false),(1,41,false),(2,3,false)]),3,32,some [.str,.int .i64 0,.int .i64 0],true⟩ := rfl
theorem ty170 : E.ty.get 170 = some ⟨.func,1,8,some [.func],true⟩ := rfl
theorem ty171 : E.ty.get 171 = some ⟨(.struct [(0,3,false),(1,3,false),(2,9,false)]),3,32,some [.int .i64 0,.int .i64 0,.str],true⟩ := rfl
theorem ty172 : E.ty.get 172 = some ⟨(.struct [(0,3,false),(1,3,false),(2,9,false)]),3,32,some [.int .i64 0,.int .i64 0,.str],true⟩ := rfl
theorem ty173 : E.ty.get 173 = some ⟨.func,1,8,some [.func],true⟩ := rfl
theorem ty174 : E.ty.get 174 = some ⟨(.struct [(0,9,false),(1,3,false),(2,38,false)]),3,40,some [.str,.int .i64 0,.iface],false⟩ := rfl
theorem ty175 : E.ty.get 175 = some ⟨(.struct [(0,9,false),(1,3,false),(2,38,false)]),3,40,some [.str,.int .i64 0,.iface],false⟩ := rfl
theorem ty176 : E.ty.get 176 = some ⟨(.int .u64),1,8,some [.int .u64 0],true⟩ := rfl
theorem ty177 : E.ty.get 177 = some ⟨.other,1,0,none,true⟩ := rfl
theorem ty178 : E.ty.get 178 = some ⟨.func,1,8,some [.func],true⟩ := rfl
theorem ty179 : E.ty.get 179 = some ⟨(.ptr 181),1,8,some [.ptr],true⟩ := rfl
theorem ty180 : E.ty.get 180 = some ⟨(.struct [(0,3,false),(1,3,false),(2,38,false)]),3,32,some [.int .i64 0,.int .i64 0,.iface],false⟩ := rfl
theorem ty181 : E.ty.get 181 = some ⟨(.struct [(0,3,false),(1,3,false),(2,38,false)]),3,32,some [.int .i64 0,.int .i64 0,.iface],false⟩ := rfl
theorem ty182 : E.ty.get 182 = some ⟨.func,1,8,some [.func],true⟩ := rfl
theorem ty183 : E.ty.get 183 = some ⟨.func,1,8,some [.func],true⟩ := rfl
theorem ty184 : E.ty.get 184 = some ⟨.func,1,8,some [.func],true⟩ := rfl
theorem ty185 : E.ty.get 185 = some ⟨.func,1,8,some [.func],true⟩ := rfl
theorem ty186 : E.ty.get 186 = some ⟨(.ptr 179),1,8,some [.ptr],true⟩ := rfl
theorem ty187 : E.ty.get 187 = some ⟨.func,1,8,some [.func],true⟩ := rfl
theorem ty188 : E.ty.get 188 = some ⟨.func,1,8,some [.func],true⟩ := rfl
theorem ty189 : E.ty.get 189 = some ⟨.other,1,0,none,true⟩ := rfl
theorem ty190 : E.ty.get 190 = some ⟨.func,1,8,some [.func],true⟩ := rfl
theorem ty191 : E.ty.get 191 = some ⟨(.struct [(0,3,false),(1,9,false),(2,38,false)]),3,40,some [.int .i64 0,.str,.iface],false⟩ := rfl
theorem ty192 : E.ty.get 192 = some ⟨(.struct [(0,3,false),(1,9,false),(2,38,false)]),3,40,some [.int .i64 0,.str,.iface],false⟩ := rfl
theorem ty193 : E.ty.get 193 = some ⟨.other,1,0,none,true⟩ := rfl
theorem ty194 : E.ty.get 194 = some ⟨.func,1,8,some [.func],true⟩ := rfl
theorem ty195 : E.ty.get 195 = some ⟨.func,1,8,some [.func],true⟩ := rfl
theorem ty196 : E.ty.get 196 = some ⟨(.iface false),1,16,some [.iface],false⟩ := rfl
theorem ty197 : E.ty.get 197 = some ⟨(.iface false),1,16,some [.iface],false⟩ := rfl
theorem ty198 : E.ty.get 198 = some ⟨.func,1,8,some [.func],true⟩ := rfl
theorem ty199 : E.ty.get 199 = some ⟨.func,1,8,some [.func],true⟩ := rfl
theorem ty200 : E.ty.get 200 = some ⟨.func,1,8,some [.func],true⟩ := rfl
theorem ty201 : E.ty.get 201 = some ⟨(.struct [(0,3,false),(1,22,false)]),2,32,some [.int .i64 0,.slice],true⟩ := rfl
theorem ty202 : E.ty.get 202 = some ⟨(.struct [(0,3,false),(1,22,false)]),2,32,some [.int .i64 0,.slice],true⟩ := rfl
theorem ty203 : E.ty.get 203 = some ⟨.func,1,8,some [.func],true⟩ := rfl
theorem ty204 : E.ty.get 204 = some ⟨.other,1,0,none,true⟩ := rfl
theorem ty205 : E.ty.get 205 = some ⟨.func,1,8,some [.func],true⟩ := rfl
theorem ty206 : E.ty.get 206 = some ⟨(.map 3 9),1,8,some [.map],true⟩ := rfl
theorem ty207 : E.ty.get 207 = some ⟨(.struct [(0,3,false),(1,206,false)]),2,16,some [.int .i64 0,.map],true⟩ := rfl
theorem ty208 : E.ty.get 208 = some ⟨(.struct [(0,3,false),(1,206,false)]),2,16,some [.int .i64 0,.map],true⟩ := rfl
theorem ty209 : E.ty.get 209 = some ⟨.func,1,8,some [.func],true⟩ := rfl
theorem ty210 : E.ty.get 210 = some ⟨.func,1,8,some [.func],true⟩ := rfl
theorem ty211 : E.ty.get 211 = some ⟨.func,1,8,some [.func],true⟩ := rfl
theorem ty212 : E.ty.get 212 = some ⟨.func,1,8,some [.func],true⟩ := rfl
theorem ty213 : E.ty.get 213 = some ⟨.func,1,8,some [.func],true⟩ := rfl
theorem ty214 : E.ty.get 214 = some ⟨.func,1,8,some [.func],true⟩ := rfl
theorem ty215 : E.ty.get 215 = some ⟨.func,1,8,some [.func],true⟩ := rfl
theorem ty216 : E.ty.get 216 = some ⟨.other,1,0,none,true⟩ := rfl
theorem ty217 : E.ty.get 217 = some ⟨.func,1,8,some [.func],true⟩ := rfl
theorem ty218 : E.ty.get 218 = some ⟨.func,1,8,some [.func],true⟩ := rfl
theorem ty219 : E.ty.get 219 = some ⟨.other,1,0,none,true⟩ := rfl
theorem ty220 : E.ty.get 220 = some ⟨.func,1,8,some [.func],true⟩ := rfl
theorem ty221 : E.ty.get 221 = some ⟨.func,1,8,some [.func],true⟩ := rfl
theorem ty222 : E.ty.get 222 = some ⟨.other,1,0,none,true⟩ := rfl
theorem ty223 : E.ty.get 223 = some ⟨.func,1,8,some [.func],true⟩ := rfl
theorem ty224 : E.ty.get 224 = some ⟨.other,1,8,some [.ptr],true⟩ := rfl
theorem ty225 : E.ty.get 225 = some ⟨(.int .u64),1,8,some [.int .u64 0],true⟩ := rfl
theorem ty226 : E.ty.get 226 = some ⟨(.struct [(0,17,false),(1,224,false),(2,225,false)]),3,24,some [.ptr,.ptr,.int .u64 0],false⟩ := rfl
theorem ty227 : E.ty.get 227 = some ⟨(.struct [(0,17,false),(1,224,false),(2,225,false)]),3,24,some [.ptr,.ptr,.int .u64 0],false⟩ := rfl
theorem ty228 : E.ty.get 228 = some ⟨.func,1,8,some [.func],true⟩ := rfl
theorem ty229 : E.ty.get 229 = some ⟨.func,1,8,some [.func],true⟩ := rfl
theorem ty230 : E.ty.get 230 = some ⟨(.int .u8),1,1,some [.int .u8 0],true⟩ := rfl
theorem ty231 : E.ty.get 231 = some ⟨.func,1,8,some [.func],true⟩ := rfl
theorem ty232 : E.ty.get 232 = some ⟨.func,1,8,some [.func],true⟩ := rfl
theorem ty233 : E.ty.get 233 = some ⟨.func,1,8,some [.func],true⟩ := rfl
theorem ty234 : E.ty.get 234 = some ⟨.other,1,0,none,true⟩ := rfl
theorem ty235 : E.ty.get 235 = some ⟨.func,1,8,some [.func],true⟩ := rfl
theorem ty236 : E.ty.get 236 = some ⟨.func,1,8,some [.func],true⟩ := rfl
theorem ty237 : E.ty.get 237 = some ⟨.func,1,8,some [.func],true⟩ := rfl
theorem ty238 : E.ty.get 238 = some ⟨.other,1,0,none,true⟩ := rfl
theorem ty239 : E.ty.get 239 = some ⟨.func,1,8,some [.func],true⟩ := rfl
theorem ty240 : E.ty.get 240 = some ⟨.func,1,8,some [.func],true⟩ := rfl
theorem ty241 : E.ty.get 241 = some ⟨.func,1,8,some [.func],true⟩ := rfl
theorem ty242 : E.ty.get 242 = some ⟨(.ptr 54),1,8,some [.ptr],true⟩ := rfl
theorem ty243 : E.ty.get 243 = some ⟨.other,1,0,none,true⟩ := rfl
theorem ty244 : E.ty.get 244 = some ⟨.func,1,8,some [.func],true⟩ := rfl
theorem ty245 : E.ty.get 245 = some ⟨.func,1,8,some [.func],true⟩ := rfl
theorem ty246 : E.ty.get 246 = some ⟨.func,1,8,some [.func],true⟩ := rfl
theorem ty247 : E.ty.get 247 = some ⟨.func,1,8,some [.func],true⟩ := rfl
theorem ty248 : E.ty.get 248 = some ⟨.func,1,8,some [.func],true⟩ := rfl
theorem ty249 : E.ty.get 249 = some ⟨.func,1,8,some [.func],true⟩ := rfl
theorem ty250 : E.ty.get 250 = some ⟨.func,1,8,some [.func],true⟩ := rfl
theorem ty251 : E.ty.get 251 = some ⟨.other,1,0,none,true⟩ := rfl
theorem ty252 : E.ty.get 252 = some ⟨.func,1,8,some [.func],true⟩ := rfl
theorem ty253 : E.ty.get 253 = some ⟨.other,1,0,none,true⟩ := rfl
theorem ty254 : E.ty.get 254 = some ⟨.func,1,8,some [.func],true⟩ := rfl
theorem ty255 : E.ty.get 255 = some ⟨(.struct [(0,17,false)]),1,8,some [.ptr],false⟩ := rfl
theorem ty256 : E.ty.get 256 = some ⟨(.struct [(0,17,false)]),1,8,some [.ptr],false⟩ := rfl
theorem ty257 : E.ty.get 257 = some ⟨(.ptr 324),1,8,some [.ptr],true⟩ := rfl
theorem ty258 : E.ty.get 258 = some ⟨(.iface false),1,16,some [.iface],false⟩ := rfl
theorem ty259 : E.ty.get 259 = some ⟨.other,1,0,none,true⟩ := rfl
theorem ty260 : E.ty.get 260 = some ⟨.func,1,8,some [.func],true⟩ := rfl
theorem ty261 : E.ty.get 261 = some ⟨(.iface false),1,16,some [.iface],false⟩ := rfl
theorem ty262 : E.ty.get 262 = some ⟨(.iface false),1,16,some [.iface],false⟩ := rfl
theorem ty263 : E.ty.get 263 = some ⟨.func,1,8,some [.func],true⟩ := rfl
theorem ty264 : E.ty.get 264 = some ⟨.func,1,8,some [.func],true⟩ := rfl
theorem ty265 : E.ty.get 265 = some ⟨.func,1,8,some [.func],true⟩ := rfl
theorem ty266 : E.ty.get 266 = some ⟨.func,1,8,some [.func],true⟩ := rfl
theorem ty267 : E.ty.get 267 = some ⟨.func,1,8,some [.func],true⟩ := rfl
theorem ty268 : E.ty.get 268 = some ⟨.func,1,8,some [.func],true⟩ := rfl
theorem ty269 : E.ty.get 269 = some ⟨.func,1,8,some [.func],true⟩ := rfl
theorem ty270 : E.ty.get 270 = some ⟨.func,1,8,some [.func],true⟩ := rfl
theorem ty271 : E.ty.get 271 = some ⟨.func,1,8,some [.func],true⟩ := rfl
theorem ty272 : E.ty.get 272 = some ⟨.func,1,8,some [.func],true⟩ := rfl
theorem ty273 : E.ty.get 273 = some ⟨.func,1,8,some [.func],true⟩ := rfl
theorem ty274 : E.ty.get 274 = some ⟨.func,1,8,some [.func],true⟩ := rfl
theorem ty275 : E.ty.get 275 = some ⟨.func,1,8,some [.func],true⟩ := rfl
theorem ty276 : E.ty.get 276 = some ⟨.func,1,8,some [.func],true⟩ := rfl
theorem ty277 : E.ty.get 277 = some ⟨(.iface false),1,16,some [.iface],false⟩ := rfl
theorem ty278 : E.ty.get 278 = some ⟨.other,1,0,none,true⟩ := rfl
theorem ty279 : E.ty.get 279 = some ⟨.func,1,8,some [.func],true⟩ := rfl
theorem ty280 : E.ty.get 280 = some ⟨.func,1,8,some [.func],true⟩ := rfl
theorem ty281 : E.ty.get 281 = some ⟨.other,1,0,none,true⟩ := rfl
theorem ty282 : E.ty.get 282 = some ⟨.func,1,8,some [.func],true⟩ := rfl
theorem ty283 : E.ty.get 283 = some ⟨.other,1,0,none,true⟩ := rfl
theorem ty284 : E.ty.get 284 = some ⟨.func,1,8,some [.func],true⟩ := rfl
theorem ty285 : E.ty.get 285 = some ⟨.func,1,8,some [.func],true⟩ := rfl
theorem ty286 : E.ty.get 286 = some ⟨.func,1,8,some [.func],true⟩ := rfl
theorem ty287 : E.ty.get 287 = some ⟨.other,1,0,none,true⟩ := rfl
theorem ty288 : E.ty.get 288 = some ⟨.func,1,8,some [.func],true⟩ := rfl
theorem ty289 : E.ty.get 289 = some ⟨.func,1,8,some [.func],true⟩ := rfl
theorem ty290 : E.ty.get 290 = some ⟨.other,1,0,none,true⟩ := rfl
theorem ty291 : E.ty.get 291 = some ⟨.func,1,8,some [.func],true⟩ := rfl
theorem ty292 : E.ty.get 292 = some ⟨.other,1,0,none,true⟩ := rfl
theorem ty293 : E.ty.get 293 = some ⟨.func,1,8,some [.func],true⟩ := rfl
theorem ty294 : E.ty.get 294 = some ⟨.other,1,0,none,true⟩ := rfl
theorem ty295 : E.ty.get 295 = some ⟨.func,1,8,some [.func],true⟩ := rfl
theorem ty296 : E.ty.get 296 = some ⟨.func,1,8,some [.func],true⟩ := rfl
theorem ty297 : E.ty.get 297 = some ⟨.func,1,8,some [.func],true⟩ := rfl
theorem ty298 : E.ty.get 298 = some ⟨.other,1,0,none,true⟩ := rfl
theorem ty299 : E.ty.get 299 = some ⟨.func,1,8,some [.func],true⟩ := rfl
theorem ty300 : E.ty.get 300 = some ⟨.func,1,8,some [.func],true⟩ := rfl
theorem ty301 : E.ty.get 301 = some ⟨.other,1,0,none,true⟩ := rfl
theorem ty302 : E.ty.get 302 = some ⟨.func,1,8,some [.func],true⟩ := rfl
theorem ty303 : E.ty.get 303 = some ⟨.func,1,8,some [.func],true⟩ := rfl
theorem ty304 : E.ty.get 304 = some ⟨.other,1,0,none,true⟩ := rfl
theorem ty305 : E.ty.get 305 = some ⟨.func,1,8,some [.func],true⟩ := rfl
theorem ty306 : E.ty.get 306 = some ⟨(.ptr 326),1,8,some [.ptr],true⟩ := rfl
theorem ty307 : E.ty.get 307 = some ⟨(.struct [(0,17,false),(1,17,false),(2,17,false),(3,9,false)]),4,40,some [.ptr,.ptr,.ptr,.str],false⟩ := rfl
theorem ty308 : E.ty.get 308 = some ⟨(.struct [(0,17,false),(1,17,false),(2,17,false),(3,9,false)]),4,40,some [.ptr,.ptr,.ptr,.str],false⟩ := rfl
theorem ty309 : E.ty.get 309 = some ⟨(.arr 0 16),0,0,some [],true⟩ := rfl
theorem ty310 : E.ty.get 310 = some ⟨(.struct [(0,309,true)]),0,0,some [],false⟩ := rfl
theorem ty311 : E.ty.get 311 = some ⟨(.struct [(0,309,true)]),0,0,some [],false⟩ := rfl
theorem ty312 : E.ty.get 312 = some ⟨.func,1,8,some [.func],true⟩ := rfl
theorem ty313 : E.ty.get 313 = some ⟨(.int .u32),1,4,some [.int .u32 0],true⟩ := rfl
theorem ty314 : E.ty.get 314 = some ⟨(.int .u8),1,1,some [.int .u8 0],true⟩ := rfl
theorem ty315 : E.ty.get 315 = some ⟨.func,1,8,some [.func],true⟩ := rfl
theorem ty316 : E.ty.get 316 = some ⟨(.ptr 5),1,8,some [.ptr],true⟩ := rfl
theorem ty317 : E.ty.get 317 = some ⟨(.int .i32),1,4,some [.int .i32 0],true⟩ := rfl
theorem ty318 : E.ty.get 318 = some ⟨(.int .i32),1,4,some [.int .i32 0],true⟩ := rfl
theorem ty319 : E.ty.get 319 = some ⟨(.struct [(0,12,false),(1,12,false),(2,313,false),(3,314,false),(4,5,false),(5,5,false),(6,230,false),(7,315,false),(8,316,false),(9,317,false),(10,318,false)]),11,48,some [.int .u64 0,.int .u64 0,.int .u32 0,.int .u8 0,.int .u8 0,.int .u8 0,.int .u8 0,.func,.ptr,.int .i32 0,.int .i32 0],false⟩ := rfl
theorem ty320 : E.ty.get 320 = some ⟨(.struct [(0,12,false),(1,12,false),(2,313,false),(3,314,false),(4,5,false),(5,5,false),(6,230,false),(7,315,false),(8,316,false),(9,317,false),(10,318,false)]),11,48,some [.int .u64 0,.int .u64 0,.int .u32 0,.int .u8 0,.int .u8 0,.int .u8 0,.int .u8 0,.func,.ptr,.int .i32 0,.int .i32 0],false⟩ := rfl
theorem ty321 : E.ty.get 321 = some ⟨.func,1,8,some [.func],true⟩ := rfl
theorem ty322 : E.ty.get 322 = some ⟨.func,1,8,some [.func],true⟩ := rfl
theorem ty323 : E.ty.get 323 = some ⟨(.struct [(0,9,false),(1,230,false)]),2,24,some [.str,.int .u8 0],false⟩ := rfl
theorem ty324 : E.ty.get 324 = some ⟨(.struct [(0,9,false),(1,230,false)]),2,24,some [.str,.int .u8 0],false⟩ := rfl
theorem ty325 : E.ty.get 325 = some ⟨(.struct [(0,9,false)]),1,16,some [.str],true⟩ := rfl
theorem ty326 : E.ty.get 326 = some ⟨(.struct [(0,9,false)]),1,16,some [.str],true⟩ := rfl
theorem ty327 : E.ty.get 327 = some ⟨(.ptr 331),1,8,some [.ptr],true⟩ := rfl
theorem ty328 : E.ty.get 328 = some ⟨.func,1,8,some [.func],true⟩ := rfl
theorem ty329 : E.ty.get 329 = some ⟨(.int .u16),1,2,some [.int .u16 0],true⟩ := rfl
theorem ty330 : E.ty.get 330 = some ⟨(.struct [(0,317,false),(1,329,false),(2,329,false),(3,313,false),(4,313,true)]),5,16,some [.int .i32 0,.int .u16 0,.int .u16 0,.int .u32 0,.int .u32 0],false⟩ := rfl
theorem ty331 : E.ty.get 331 = some ⟨(.struct [(0,317,false),(1,329,false),(2,329,false),(3,313,false),(4,313,true)]),5,16,some [.int .i32 0,.int .u16 0,.int .u16 0,.int .u32 0,.int .u32 0],false⟩ := rfl
theorem ty332 : E.ty.get 332 = some ⟨(.slice 335),1,24,some [.slice],true⟩ := rfl
theorem ty333 : E.ty.get 333 = some ⟨(.int .i32),1,4,some [.int .i32 0],true⟩ := rfl
theorem ty334 : E.ty.get 334 = some ⟨(.struct [(0,317,false),(1,318,false),(2,333,false),(3,333,false)]),4,16,some [.int .i32 0,.int .i32 0,.int .i32 0,.int .i32 0],false⟩ := rfl
theorem ty335 : E.ty.get 335 = some ⟨(.struct [(0,317,false),(1,318,false),(2,333,false),(3,333,false)]),4,16,some [.int .i32 0,.int .i32 0,.int .i32 0,.int .i32 0],false⟩ := rfl
theorem ty336 : E.ty.get 336 = some ⟨(.ptr 38),1,8,some [.ptr],true⟩ := rfl
set_option linter.defProp false in
def tyB := And.intro ty0 <| And.intro ty1 <| And.intro ty2 <| And.intro ty3 <| And.intro ty4 <| And.intro ty5 <| And.intro ty6 <| And.intro ty7 <| And.intro ty8 <| And.intro ty9 <| And.intro ty10 <| And.intro ty11 <| And.intro ty12 <| And.intro ty13 <| And.intro ty14 <| And.intro ty15 <| And.intro ty16 <| And.intro ty17 <| And.intro ty18 <| And.intro ty19 <| And.intro ty20 <| And.intro ty21 <| And.intro ty22 <| And.intro ty23 <| And.intro ty24 <| And.intro ty25 <| And.intro ty26 <| And.intro ty27 <| And.intro ty28 <| And.intro ty29 <| And.intro ty30 <| And.intro ty31 <| And.intro ty32 <| And.intro ty33 <| And.intro ty34 <| And.intro ty35 <| And.intro ty36 <| And.intro ty37 <| And.intro ty38 <| And.intro ty39 <| And.intro ty40 <| And.intro ty41 <| And.intro ty42 <| And.intro ty43 <| And.intro ty44 <| And.intro ty45 <| And.intro ty46 <| And.intro ty47 <| And.intro ty48 <| And.intro ty49 <| And.intro ty50 <| And.intro ty51 <| And.intro ty52 <| And.intro ty53 <| And.intro ty54 <| And.intro ty55 <| And.intro ty56 <| And.intro ty57 <| And.intro ty58 <| And.intro ty59 <| And.intro ty60 <| And.intro ty61 <| And.intro ty62 <| And.intro ty63 <| And.intro ty64 <| And.intro ty65 <| And.intro ty66 <| And.intro ty67 <| And.intro ty68 <| And.intro ty69 <| And.intro ty70 <| And.intro ty71 <| And.intro ty72 <| And.intro ty73 <| And.intro ty74 <| And.intro ty75 <| And.intro ty76 <| And.intro ty77 <| And.intro ty78 <| And.intro ty79 <| And.intro ty80 <| And.intro ty81 <| And.intro ty82 <| And.intro ty83 <| And.intro ty84 <| And.intro ty85 <| And.intro ty86 <| And.intro ty87 <| And.intro ty88 <| And.intro ty89 <| And.intro ty90 <| And.intro ty91 <| And.intro ty92 <| And.intro ty93 <| And.intro ty94 <| And.intro ty95 <| And.intro ty96 <| And.intro ty97 <| And.intro ty98 <| And.intro ty99 <| And.intro ty100 <| And.intro ty101 <| And.intro ty102 <| And.intro ty103 <| And.intro ty104 <| And.intro ty105 <| And.intro ty106 <| And.intro ty107 <| And.intro ty108 <| And.intro ty109 <| And.intro ty110 <| And.intro ty111 <| And.intro ty112 <| And.intro ty113 <| And.intro ty114 <| And.intro ty115 <| And.intro ty116 <| And.intro ty117 <| And.intro ty118 <| And.intro ty119 <| And.intro ty120 <| And.intro ty121 <| And.intro ty122 <| And.intro ty123 <| And.intro ty124 <| And.intro ty125 <| And.intro ty126 <| And.intro ty127 <| And.intro ty128 <| And.intro ty129 <| And.intro ty130 <| And.intro ty131 <| And.intro ty132 <| And.intro ty133 <| And.intro ty134 <| And.intro ty135 <| And.intro ty136 <| And.intro ty137 <| And.intro ty138 <| And.intro ty139 <| And.intro ty140 <| And.intro ty141 <| And.intro ty142 <| And.intro ty143 <| And.intro ty144 <| And.intro ty145 <| And.intro ty146 <| And.intro ty147 <| And.intro ty148 <| And.intro ty149 <| And.intro ty150 <| And.intro ty151 <| And.intro ty152 <| And.intro ty153 <| And.intro ty154 <| And.intro ty155 <| And.intro ty156 <| And.intro ty157 <| And.intro ty158 <| And.intro ty159 <| And.intro ty160 <| And.intro ty161 <| And.intro ty162 <| And.intro ty163 <| And.intro ty164 <| And.intro ty165 <| And.intro ty166 <| And.intro ty167 <| And.intro ty168 <| And.intro ty169 <| And.intro ty170 <| And.intro ty171 <| And.intro ty172 <| And.intro ty173 <| And.intro ty174 <| And.intro ty175 <| And.intro ty176 <| And.intro ty177 <| And.intro ty178 <| And.intro ty179 <| And.intro ty180 <| And.intro ty181 <| And.intro ty182 <| And.intro ty183 <| And.intro ty184 <| And.intro ty185 <| And.intro ty186 <| And.intro ty187 <| And.intro ty188 <| And.intro ty189 <| And.intro ty190 <| And.intro ty191 <| And.intro ty192 <| And.intro ty193 <| And.intro ty194 <| And.intro ty195 <| And.intro ty196 <| And.intro ty197 <| And.intro ty198 <| And.intro ty199 <| And.intro ty200 <| And.intro ty201 <| And.intro ty202 <| And.intro ty203 <| And.intro ty204 <| And.intro ty205 <| And.intro ty206 <| And.intro ty207 <| And.intro ty208 <| And.intro ty209 <| And.intro ty210 <| And.intro ty211 <| And.intro ty212 <| And.intro ty213 <| And.intro ty214 <| And.intro ty215 <| And.intro ty216 <| And.intro ty217 <| And.intro ty218 <| And.intro ty219 <| And.intro ty220 <| And.intro ty221 <| And.intro ty222 <| And.intro ty223 <| And.intro ty224 <| And.intro ty225 <| And.intro ty226 <| And.intro ty227 <| And.intro ty228 <| And.intro ty229 <| And.intro ty230 <| And.intro ty231 <| And.intro ty232 <| And.intro ty233 <| And.intro ty234 <| And.intro ty235 <| And.intro ty236 <| And.intro ty237 <| And.intro ty238 <| And.intro ty239 <| And.intro ty240 <| And.intro ty241 <| And.intro ty242 <| And.intro ty243 <| And.intro ty244 <| And.intro ty245 <| And.intro ty246 <| And.intro ty247 <| And.intro ty248 <| And.intro ty249 <| And.intro ty250 <| And.intro ty251 <| And.intro ty252 <| And.intro ty253 <| And.intro ty254 <| And.intro ty255 <| And.intro ty256 <| And.intro ty257 <| And.intro ty258 <| And.intro ty259 <| And.intro ty260 <| And.intro ty261 <| And.intro ty262 <| And.intro ty263 <| And.intro ty264 <| And.intro ty265 <| And.intro ty266 <| And.intro ty267 <| And.intro ty268 <| And.intro ty269 <| And.intro ty270 <| And.intro ty271 <| And.intro ty272 <| And.intro ty273 <| And.intro ty274 <| And.intro ty275 <| And.intro ty276 <| And.intro ty277 <| And.intro ty278 <| And.intro ty279 <| And.intro ty280 <| And.intro ty281 <| And.intro ty282 <| And.intro ty283 <| And.intro ty284 <| And.intro ty285 <| And.intro ty286 <| And.intro ty287 <| And.intro ty288 <| And.intro ty289 <| And.intro ty290 <| And.intro ty291 <| And.intro ty292 <| And.intro ty293 <| And.intro ty294 <| And.intro ty295 <| And.intro ty296 <| And.intro ty297 <| And.intro ty298 <| And.intro ty299 <| And.intro ty300 <| And.intro ty301 <| And.intro ty302 <| And.intro ty303 <| And.intro ty304 <| And.intro ty305 <| And.intro ty306 <| And.intro ty307 <| And.intro ty308 <| And.intro ty309 <| And.intro ty310 <| And.intro ty311 <| And.intro ty312 <| And.intro ty313 <| And.intro ty314 <| And.intro ty315 <| And.intro ty316 <| And.intro ty317 <| And.intro ty318 <| And.intro ty319 <| And.intro ty320 <| And.intro ty321 <| And.intro ty322 <| And.intro ty323 <| And.intro ty324 <| And.intro ty325 <| And.intro ty326 <| And.intro ty327 <| And.intro ty328 <| And.intro ty329 <| And.intro ty330 <| And.intro ty331 <| And.intro ty332 <| And.intro ty333 <| And.intro ty334 <| And.intro ty335 <| ty336
theorem Edp : E.dp = dp := rfl
theorem dpv : dp 22 = true ∧ dp 23 = false ∧ dp 26 = true ∧ dp 28 = true ∧ dp 36 = true ∧ dp 43 = true ∧ dp 50 = true ∧ dp 51 = true ∧ dp 52 = true ∧ dp 54 = true ∧ dp 61 = false ∧ dp 74 = false ∧ dp 79 = false ∧ dp 82 = false ∧ dp 94 = false ∧ dp 124 = true ∧ dp 128 = true ∧ dp 142 = true ∧ dp 158 = true ∧ dp 162 = false ∧ dp 172 = true ∧ dp 181 = true ∧ dp 332 = false ∧ True := ⟨rfl,rfl,rfl,rfl,rfl,rfl,rfl,rfl,rfl,rfl,rfl,rfl,rfl,rfl,rfl,rfl,rfl,rfl,rfl,rfl,rfl,rfl,rfl,trivial⟩
def sblk : Nat → Nat := fun n => ([8,9,10,11,12,13,14] : List Nat).getD (n - 1) 0
end Go.Proofs.YtkhcbbpfchgemaaGreatDoor.AbsA
