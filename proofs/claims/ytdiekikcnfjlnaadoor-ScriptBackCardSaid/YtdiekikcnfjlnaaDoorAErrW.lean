/-
  errors.Is and errors.As at an error of fault.New's make, as the model runs them: turned from the kit's worked texts by a program (mkerr.py).
-/
import Derived.Test.YtdiekikcnfjlnaaDoorProg
import Derived.WalkKit
import Derived.LaidEql
import Derived.Stop.Asserts
import Derived.RowKitTokens
namespace Go.Proofs.YtdiekikcnfjlnaaDoor.Err
open Go.RowKit Go.Extern.Stop Go.Stop Go.Extern
set_option linter.unusedVariables false
def cmpF : Array Value → Sem Value := Extern.ReflectliteType.method fun t => do
 Rtype.noPackHeld "Comparable" t
 pure (.bool (← typeInfo t).comparable)
theorem Tryd.isTypeOf (v : Value) (w : World) : (Extern.ReflectliteType.typeOf #[.iface 95 v]).run Tryd.prog w = .ok (.iface 87 (.agg #[.pointer (some ⟨7,95,none⟩)])) w := by kernel_rfl
theorem Tryd.isComparable (w : World) : (cmpF #[.agg #[.pointer (some ⟨7,95,none⟩)]]).run Tryd.prog w = .ok (.bool true) w := by kernel_rfl
theorem Tryd.isMethodComparable (v : Value) (w : World) : (Go.method 231 87 v "Comparable").run Tryd.prog w = .ok (66, v) w := by kernel_rfl
theorem Tryd.isComp : (Tryd.prog.info? 95).map (·.comparable) = some true := by kernel_rfl
theorem Tryd.isSize : (Tryd.prog.info? 119).map (·.size) = some 1 := by kernel_rfl

theorem Tryd.noIsE (v : Value) (xT : TypeId) (w : World) : (Instr.typeAssert (.iface 95 v) xT 89 true).run Tryd.prog w = .ok (.tuple #[.nilIface,.bool false]) w := run_typeAssert_lacksB Tryd.underlying89 (by kernel_rfl) (by kernel_rfl) v xT w
theorem Tryd.noUnwrapE (v : Value) (xT : TypeId) (w : World) : (Instr.typeAssert (.iface 95 v) xT 92 true).run Tryd.prog w = .ok (.tuple #[.nilIface,.bool false]) w := run_typeAssert_lacksB Tryd.underlying92 (by kernel_rfl) (by kernel_rfl) v xT w
theorem Tryd.noUnwrapsE (v : Value) (xT : TypeId) (w : World) : (Instr.typeAssert (.iface 95 v) xT 93 true).run Tryd.prog w = .ok (.tuple #[.nilIface,.bool false]) w := run_typeAssert_lacksB Tryd.underlying93 (by kernel_rfl) (by kernel_rfl) v xT w
theorem Tryd.noIsW (v : Value) (xT : TypeId) (w : World) : (Instr.typeAssert (.iface 64 v) xT 89 true).run Tryd.prog w = .ok (.tuple #[.nilIface,.bool false]) w := run_typeAssert_lacksB Tryd.underlying89 (by kernel_rfl) (by kernel_rfl) v xT w
theorem Tryd.hasUnwrapW (v : Value) (xT : TypeId) (w : World) : (Instr.typeAssert (.iface 64 v) xT 92 true).run Tryd.prog w = .ok (.tuple #[.iface 64 v,.bool true]) w := run_typeAssert_hasB Tryd.underlying92 (by kernel_rfl) v xT w
theorem Tryd.methodUnwrap (v : Value) (w : World) : (Go.method 231 64 v "Unwrap").run Tryd.prog w = .ok (62, v) w := by kernel_rfl

theorem is_same (a : Addr) (w : World) :
  Calls Tryd.prog 24 #[.iface 95 (.pointer (some a)),.iface 95 (.pointer (some a))] w fun e w' => e = .returned (.bool true) ∧ w' = w := by
 obtain ⟨i,hi,hcmp⟩ := Option.map_eq_some_iff.1 Tryd.isComp
 obtain ⟨j,hj,hjs⟩ := Option.map_eq_some_iff.1 Tryd.isSize
 have h8 := @run_callFunc_extern Tryd.prog 36 _ Extern.ReflectliteType.typeOf Tryd.func36 (by kernel_rfl) (by kernel_rfl) (by kernel_rfl) (by kernel_rfl)
 have h32 := @run_callFunc_extern Tryd.prog 66 _ cmpF Tryd.func66 (by kernel_rfl) (by kernel_rfl) (by kernel_rfl) (by kernel_rfl)
 have tT := Tryd.isTypeOf
 have cT := Tryd.isComparable
 have mR := Tryd.isMethodComparable
 have heq := run_eql_iface_ptr_same (P := Tryd.prog) w a Tryd.underlying28 Tryd.underlying95 hi hcmp hj
 go_enter Tryd.func24,Tryd.ntmps24
 go_wp2
 refine wp_loop_rounds 1 ?_
 rw [rounds_succ]
 go_wp2
 go_ret
 exact ⟨rfl,rfl⟩

theorem is_nil (b : Addr) (w : World) :
  Calls Tryd.prog 24 #[.nilIface,.iface 95 (.pointer (some b))] w fun e w' => e = .returned (.bool false) ∧ w' = w := by
 have hn := run_eql_iface_nil_left (P := Tryd.prog) w 95 (.pointer (some b)) Tryd.underlying28
 go_enter Tryd.func24,Tryd.ntmps24
 go_wp2
 go_ret
 exact ⟨rfl,rfl⟩

theorem is_other (a b : Addr) (ca cb : Array Value) (ta tb : TypeId) (w : World) (hne : a ≠ b) (ha : w.heap[a.block]? = some (.cells ca ta (0,0))) (hb : w.heap[b.block]? = some (.cells cb tb (0,0))) :
  Calls Tryd.prog 24 #[.iface 95 (.pointer (some a)),.iface 95 (.pointer (some b))] w fun e w' => e = .returned (.bool false) ∧ w' = w := by
 obtain ⟨i,hi,hcmp⟩ := Option.map_eq_some_iff.1 Tryd.isComp
 obtain ⟨j,hj,hjs⟩ := Option.map_eq_some_iff.1 Tryd.isSize
 have h8 := @run_callFunc_extern Tryd.prog 36 _ Extern.ReflectliteType.typeOf Tryd.func36 (by kernel_rfl) (by kernel_rfl) (by kernel_rfl) (by kernel_rfl)
 have h32 := @run_callFunc_extern Tryd.prog 66 _ cmpF Tryd.func66 (by kernel_rfl) (by kernel_rfl) (by kernel_rfl) (by kernel_rfl)
 have tT := Tryd.isTypeOf
 have cT := Tryd.isComparable
 have mR := Tryd.isMethodComparable
 have nE := Tryd.noIsE
 have uE := Tryd.noUnwrapE
 have vE := Tryd.noUnwrapsE
 have nW := Tryd.noIsW
 have uW := Tryd.hasUnwrapW
 have mU := Tryd.methodUnwrap
 have heq := run_eql_iface_ptr_other (P := Tryd.prog) w Tryd.underlying28 Tryd.underlying95 hi hcmp hj (by rw [hjs]; decide) hne ha hb
 go_enter Tryd.func24,Tryd.ntmps24
 go_wp2
 refine wp_loop_rounds 1 ?_
 rw [rounds_succ]
 go_wp2
 go_ret
 exact ⟨rfl,rfl⟩

theorem is_wrap_same1 (p1 o1 : Nat) (b : Addr) (w : World) (h1 : w.cell? ⟨p1,o1 + 2,none⟩ = some (.iface 95 (.pointer (some b)))) :
  Calls Tryd.prog 24 #[.iface 64 (.pointer (some ⟨p1,o1,none⟩)),.iface 95 (.pointer (some b))] w fun e w' => e = .returned (.bool true) ∧ w' = w := by
 obtain ⟨i,hi,hcmp⟩ := Option.map_eq_some_iff.1 Tryd.isComp
 obtain ⟨j,hj,hjs⟩ := Option.map_eq_some_iff.1 Tryd.isSize
 have h8 := @run_callFunc_extern Tryd.prog 36 _ Extern.ReflectliteType.typeOf Tryd.func36 (by kernel_rfl) (by kernel_rfl) (by kernel_rfl) (by kernel_rfl)
 have h32 := @run_callFunc_extern Tryd.prog 66 _ cmpF Tryd.func66 (by kernel_rfl) (by kernel_rfl) (by kernel_rfl) (by kernel_rfl)
 have tT := Tryd.isTypeOf
 have cT := Tryd.isComparable
 have mR := Tryd.isMethodComparable
 have nE := Tryd.noIsE
 have uE := Tryd.noUnwrapE
 have vE := Tryd.noUnwrapsE
 have nW := Tryd.noIsW
 have uW := Tryd.hasUnwrapW
 have mU := Tryd.methodUnwrap
 have heq := run_eql_iface_ptr_same (P := Tryd.prog) w b Tryd.underlying28 Tryd.underlying95 hi hcmp hj
 have hty1 := run_eql_iface_types (P := Tryd.prog) 64 95 (.pointer (some ⟨p1,o1,none⟩)) (.pointer (some b)) Tryd.underlying28 (by decide) w
 go_enter Tryd.func24,Tryd.ntmps24
 go_wp2
 refine wp_loop_rounds 2 ?_
 rw [rounds_succ]
 go_wp2
 rw [rounds_succ]
 go_wp2
 go_ret
 exact ⟨rfl,rfl⟩

theorem is_wrap_same2 (p1 o1 p2 o2 : Nat) (b : Addr) (w : World) (h1 : w.cell? ⟨p1,o1 + 2,none⟩ = some (.iface 64 (.pointer (some ⟨p2,o2,none⟩)))) (h2 : w.cell? ⟨p2,o2 + 2,none⟩ = some (.iface 95 (.pointer (some b)))) :
  Calls Tryd.prog 24 #[.iface 64 (.pointer (some ⟨p1,o1,none⟩)),.iface 95 (.pointer (some b))] w fun e w' => e = .returned (.bool true) ∧ w' = w := by
 obtain ⟨i,hi,hcmp⟩ := Option.map_eq_some_iff.1 Tryd.isComp
 obtain ⟨j,hj,hjs⟩ := Option.map_eq_some_iff.1 Tryd.isSize
 have h8 := @run_callFunc_extern Tryd.prog 36 _ Extern.ReflectliteType.typeOf Tryd.func36 (by kernel_rfl) (by kernel_rfl) (by kernel_rfl) (by kernel_rfl)
 have h32 := @run_callFunc_extern Tryd.prog 66 _ cmpF Tryd.func66 (by kernel_rfl) (by kernel_rfl) (by kernel_rfl) (by kernel_rfl)
 have tT := Tryd.isTypeOf
 have cT := Tryd.isComparable
 have mR := Tryd.isMethodComparable
 have nE := Tryd.noIsE
 have uE := Tryd.noUnwrapE
 have vE := Tryd.noUnwrapsE
 have nW := Tryd.noIsW
 have uW := Tryd.hasUnwrapW
 have mU := Tryd.methodUnwrap
 have heq := run_eql_iface_ptr_same (P := Tryd.prog) w b Tryd.underlying28 Tryd.underlying95 hi hcmp hj
 have hty1 := run_eql_iface_types (P := Tryd.prog) 64 95 (.pointer (some ⟨p1,o1,none⟩)) (.pointer (some b)) Tryd.underlying28 (by decide) w
 have hty2 := run_eql_iface_types (P := Tryd.prog) 64 95 (.pointer (some ⟨p2,o2,none⟩)) (.pointer (some b)) Tryd.underlying28 (by decide) w
 go_enter Tryd.func24,Tryd.ntmps24
 go_wp2
 refine wp_loop_rounds 3 ?_
 rw [rounds_succ]
 go_wp2
 rw [rounds_succ]
 go_wp2
 rw [rounds_succ]
 go_wp2
 go_ret
 exact ⟨rfl,rfl⟩

theorem is_wrap_same3 (p1 o1 p2 o2 p3 o3 : Nat) (b : Addr) (w : World) (h1 : w.cell? ⟨p1,o1 + 2,none⟩ = some (.iface 64 (.pointer (some ⟨p2,o2,none⟩)))) (h2 : w.cell? ⟨p2,o2 + 2,none⟩ = some (.iface 64 (.pointer (some ⟨p3,o3,none⟩)))) (h3 : w.cell? ⟨p3,o3 + 2,none⟩ = some (.iface 95 (.pointer (some b)))) :
  Calls Tryd.prog 24 #[.iface 64 (.pointer (some ⟨p1,o1,none⟩)),.iface 95 (.pointer (some b))] w fun e w' => e = .returned (.bool true) ∧ w' = w := by
 obtain ⟨i,hi,hcmp⟩ := Option.map_eq_some_iff.1 Tryd.isComp
 obtain ⟨j,hj,hjs⟩ := Option.map_eq_some_iff.1 Tryd.isSize
 have h8 := @run_callFunc_extern Tryd.prog 36 _ Extern.ReflectliteType.typeOf Tryd.func36 (by kernel_rfl) (by kernel_rfl) (by kernel_rfl) (by kernel_rfl)
 have h32 := @run_callFunc_extern Tryd.prog 66 _ cmpF Tryd.func66 (by kernel_rfl) (by kernel_rfl) (by kernel_rfl) (by kernel_rfl)
 have tT := Tryd.isTypeOf
 have cT := Tryd.isComparable
 have mR := Tryd.isMethodComparable
 have nE := Tryd.noIsE
 have uE := Tryd.noUnwrapE
 have vE := Tryd.noUnwrapsE
 have nW := Tryd.noIsW
 have uW := Tryd.hasUnwrapW
 have mU := Tryd.methodUnwrap
 have heq := run_eql_iface_ptr_same (P := Tryd.prog) w b Tryd.underlying28 Tryd.underlying95 hi hcmp hj
 have hty1 := run_eql_iface_types (P := Tryd.prog) 64 95 (.pointer (some ⟨p1,o1,none⟩)) (.pointer (some b)) Tryd.underlying28 (by decide) w
 have hty2 := run_eql_iface_types (P := Tryd.prog) 64 95 (.pointer (some ⟨p2,o2,none⟩)) (.pointer (some b)) Tryd.underlying28 (by decide) w
 have hty3 := run_eql_iface_types (P := Tryd.prog) 64 95 (.pointer (some ⟨p3,o3,none⟩)) (.pointer (some b)) Tryd.underlying28 (by decide) w
 go_enter Tryd.func24,Tryd.ntmps24
 go_wp2
 refine wp_loop_rounds 4 ?_
 rw [rounds_succ]
 go_wp2
 rw [rounds_succ]
 go_wp2
 rw [rounds_succ]
 go_wp2
 rw [rounds_succ]
 go_wp2
 go_ret
 exact ⟨rfl,rfl⟩

theorem is_wrap_same4 (p1 o1 p2 o2 p3 o3 p4 o4 : Nat) (b : Addr) (w : World) (h1 : w.cell? ⟨p1,o1 + 2,none⟩ = some (.iface 64 (.pointer (some ⟨p2,o2,none⟩)))) (h2 : w.cell? ⟨p2,o2 + 2,none⟩ = some (.iface 64 (.pointer (some ⟨p3,o3,none⟩)))) (h3 : w.cell? ⟨p3,o3 + 2,none⟩ = some (.iface 64 (.pointer (some ⟨p4,o4,none⟩)))) (h4 : w.cell? ⟨p4,o4 + 2,none⟩ = some (.iface 95 (.pointer (some b)))) :
  Calls Tryd.prog 24 #[.iface 64 (.pointer (some ⟨p1,o1,none⟩)),.iface 95 (.pointer (some b))] w fun e w' => e = .returned (.bool true) ∧ w' = w := by
 obtain ⟨i,hi,hcmp⟩ := Option.map_eq_some_iff.1 Tryd.isComp
 obtain ⟨j,hj,hjs⟩ := Option.map_eq_some_iff.1 Tryd.isSize
 have h8 := @run_callFunc_extern Tryd.prog 36 _ Extern.ReflectliteType.typeOf Tryd.func36 (by kernel_rfl) (by kernel_rfl) (by kernel_rfl) (by kernel_rfl)
 have h32 := @run_callFunc_extern Tryd.prog 66 _ cmpF Tryd.func66 (by kernel_rfl) (by kernel_rfl) (by kernel_rfl) (by kernel_rfl)
 have tT := Tryd.isTypeOf
 have cT := Tryd.isComparable
 have mR := Tryd.isMethodComparable
 have nE := Tryd.noIsE
 have uE := Tryd.noUnwrapE
 have vE := Tryd.noUnwrapsE
 have nW := Tryd.noIsW
 have uW := Tryd.hasUnwrapW
 have mU := Tryd.methodUnwrap
 have heq := run_eql_iface_ptr_same (P := Tryd.prog) w b Tryd.underlying28 Tryd.underlying95 hi hcmp hj
 have hty1 := run_eql_iface_types (P := Tryd.prog) 64 95 (.pointer (some ⟨p1,o1,none⟩)) (.pointer (some b)) Tryd.underlying28 (by decide) w
 have hty2 := run_eql_iface_types (P := Tryd.prog) 64 95 (.pointer (some ⟨p2,o2,none⟩)) (.pointer (some b)) Tryd.underlying28 (by decide) w
 have hty3 := run_eql_iface_types (P := Tryd.prog) 64 95 (.pointer (some ⟨p3,o3,none⟩)) (.pointer (some b)) Tryd.underlying28 (by decide) w
 have hty4 := run_eql_iface_types (P := Tryd.prog) 64 95 (.pointer (some ⟨p4,o4,none⟩)) (.pointer (some b)) Tryd.underlying28 (by decide) w
 go_enter Tryd.func24,Tryd.ntmps24
 go_wp2
 refine wp_loop_rounds 5 ?_
 rw [rounds_succ]
 go_wp2
 rw [rounds_succ]
 go_wp2
 rw [rounds_succ]
 go_wp2
 rw [rounds_succ]
 go_wp2
 rw [rounds_succ]
 go_wp2
 go_ret
 exact ⟨rfl,rfl⟩

theorem is_wrap_other1 (p1 o1 : Nat) (b a : Addr) (ca cb : Array Value) (ta tb : TypeId) (w : World) (h1 : w.cell? ⟨p1,o1 + 2,none⟩ = some (.iface 95 (.pointer (some a)))) (hne : a ≠ b) (ha : w.heap[a.block]? = some (.cells ca ta (0,0))) (hb : w.heap[b.block]? = some (.cells cb tb (0,0))) :
  Calls Tryd.prog 24 #[.iface 64 (.pointer (some ⟨p1,o1,none⟩)),.iface 95 (.pointer (some b))] w fun e w' => e = .returned (.bool false) ∧ w' = w := by
 obtain ⟨i,hi,hcmp⟩ := Option.map_eq_some_iff.1 Tryd.isComp
 obtain ⟨j,hj,hjs⟩ := Option.map_eq_some_iff.1 Tryd.isSize
 have h8 := @run_callFunc_extern Tryd.prog 36 _ Extern.ReflectliteType.typeOf Tryd.func36 (by kernel_rfl) (by kernel_rfl) (by kernel_rfl) (by kernel_rfl)
 have h32 := @run_callFunc_extern Tryd.prog 66 _ cmpF Tryd.func66 (by kernel_rfl) (by kernel_rfl) (by kernel_rfl) (by kernel_rfl)
 have tT := Tryd.isTypeOf
 have cT := Tryd.isComparable
 have mR := Tryd.isMethodComparable
 have nE := Tryd.noIsE
 have uE := Tryd.noUnwrapE
 have vE := Tryd.noUnwrapsE
 have nW := Tryd.noIsW
 have uW := Tryd.hasUnwrapW
 have mU := Tryd.methodUnwrap
 have heq := run_eql_iface_ptr_other (P := Tryd.prog) w Tryd.underlying28 Tryd.underlying95 hi hcmp hj (by rw [hjs]; decide) hne ha hb
 have hty1 := run_eql_iface_types (P := Tryd.prog) 64 95 (.pointer (some ⟨p1,o1,none⟩)) (.pointer (some b)) Tryd.underlying28 (by decide) w
 go_enter Tryd.func24,Tryd.ntmps24
 go_wp2
 refine wp_loop_rounds 2 ?_
 rw [rounds_succ]
 go_wp2
 rw [rounds_succ]
 go_wp2
 go_ret
 exact ⟨rfl,rfl⟩

theorem is_wrap_other2 (p1 o1 p2 o2 : Nat) (b a : Addr) (ca cb : Array Value) (ta tb : TypeId) (w : World) (h1 : w.cell? ⟨p1,o1 + 2,none⟩ = some (.iface 64 (.pointer (some ⟨p2,o2,none⟩)))) (h2 : w.cell? ⟨p2,o2 + 2,none⟩ = some (.iface 95 (.pointer (some a)))) (hne : a ≠ b) (ha : w.heap[a.block]? = some (.cells ca ta (0,0))) (hb : w.heap[b.block]? = some (.cells cb tb (0,0))) :
  Calls Tryd.prog 24 #[.iface 64 (.pointer (some ⟨p1,o1,none⟩)),.iface 95 (.pointer (some b))] w fun e w' => e = .returned (.bool false) ∧ w' = w := by
 obtain ⟨i,hi,hcmp⟩ := Option.map_eq_some_iff.1 Tryd.isComp
 obtain ⟨j,hj,hjs⟩ := Option.map_eq_some_iff.1 Tryd.isSize
 have h8 := @run_callFunc_extern Tryd.prog 36 _ Extern.ReflectliteType.typeOf Tryd.func36 (by kernel_rfl) (by kernel_rfl) (by kernel_rfl) (by kernel_rfl)
 have h32 := @run_callFunc_extern Tryd.prog 66 _ cmpF Tryd.func66 (by kernel_rfl) (by kernel_rfl) (by kernel_rfl) (by kernel_rfl)
 have tT := Tryd.isTypeOf
 have cT := Tryd.isComparable
 have mR := Tryd.isMethodComparable
 have nE := Tryd.noIsE
 have uE := Tryd.noUnwrapE
 have vE := Tryd.noUnwrapsE
 have nW := Tryd.noIsW
 have uW := Tryd.hasUnwrapW
 have mU := Tryd.methodUnwrap
 have heq := run_eql_iface_ptr_other (P := Tryd.prog) w Tryd.underlying28 Tryd.underlying95 hi hcmp hj (by rw [hjs]; decide) hne ha hb
 have hty1 := run_eql_iface_types (P := Tryd.prog) 64 95 (.pointer (some ⟨p1,o1,none⟩)) (.pointer (some b)) Tryd.underlying28 (by decide) w
 have hty2 := run_eql_iface_types (P := Tryd.prog) 64 95 (.pointer (some ⟨p2,o2,none⟩)) (.pointer (some b)) Tryd.underlying28 (by decide) w
 go_enter Tryd.func24,Tryd.ntmps24
 go_wp2
 refine wp_loop_rounds 3 ?_
 rw [rounds_succ]
 go_wp2
 rw [rounds_succ]
 go_wp2
 rw [rounds_succ]
 go_wp2
 go_ret
 exact ⟨rfl,rfl⟩

theorem is_wrap_other3 (p1 o1 p2 o2 p3 o3 : Nat) (b a : Addr) (ca cb : Array Value) (ta tb : TypeId) (w : World) (h1 : w.cell? ⟨p1,o1 + 2,none⟩ = some (.iface 64 (.pointer (some ⟨p2,o2,none⟩)))) (h2 : w.cell? ⟨p2,o2 + 2,none⟩ = some (.iface 64 (.pointer (some ⟨p3,o3,none⟩)))) (h3 : w.cell? ⟨p3,o3 + 2,none⟩ = some (.iface 95 (.pointer (some a)))) (hne : a ≠ b) (ha : w.heap[a.block]? = some (.cells ca ta (0,0))) (hb : w.heap[b.block]? = some (.cells cb tb (0,0))) :
  Calls Tryd.prog 24 #[.iface 64 (.pointer (some ⟨p1,o1,none⟩)),.iface 95 (.pointer (some b))] w fun e w' => e = .returned (.bool false) ∧ w' = w := by
 obtain ⟨i,hi,hcmp⟩ := Option.map_eq_some_iff.1 Tryd.isComp
 obtain ⟨j,hj,hjs⟩ := Option.map_eq_some_iff.1 Tryd.isSize
 have h8 := @run_callFunc_extern Tryd.prog 36 _ Extern.ReflectliteType.typeOf Tryd.func36 (by kernel_rfl) (by kernel_rfl) (by kernel_rfl) (by kernel_rfl)
 have h32 := @run_callFunc_extern Tryd.prog 66 _ cmpF Tryd.func66 (by kernel_rfl) (by kernel_rfl) (by kernel_rfl) (by kernel_rfl)
 have tT := Tryd.isTypeOf
 have cT := Tryd.isComparable
 have mR := Tryd.isMethodComparable
 have nE := Tryd.noIsE
 have uE := Tryd.noUnwrapE
 have vE := Tryd.noUnwrapsE
 have nW := Tryd.noIsW
 have uW := Tryd.hasUnwrapW
 have mU := Tryd.methodUnwrap
 have heq := run_eql_iface_ptr_other (P := Tryd.prog) w Tryd.underlying28 Tryd.underlying95 hi hcmp hj (by rw [hjs]; decide) hne ha hb
 have hty1 := run_eql_iface_types (P := Tryd.prog) 64 95 (.pointer (some ⟨p1,o1,none⟩)) (.pointer (some b)) Tryd.underlying28 (by decide) w
 have hty2 := run_eql_iface_types (P := Tryd.prog) 64 95 (.pointer (some ⟨p2,o2,none⟩)) (.pointer (some b)) Tryd.underlying28 (by decide) w
 have hty3 := run_eql_iface_types (P := Tryd.prog) 64 95 (.pointer (some ⟨p3,o3,none⟩)) (.pointer (some b)) Tryd.underlying28 (by decide) w
 go_enter Tryd.func24,Tryd.ntmps24
 go_wp2
 refine wp_loop_rounds 4 ?_
 rw [rounds_succ]
 go_wp2
 rw [rounds_succ]
 go_wp2
 rw [rounds_succ]
 go_wp2
 rw [rounds_succ]
 go_wp2
 go_ret
 exact ⟨rfl,rfl⟩

theorem is_wrap_other4 (p1 o1 p2 o2 p3 o3 p4 o4 : Nat) (b a : Addr) (ca cb : Array Value) (ta tb : TypeId) (w : World) (h1 : w.cell? ⟨p1,o1 + 2,none⟩ = some (.iface 64 (.pointer (some ⟨p2,o2,none⟩)))) (h2 : w.cell? ⟨p2,o2 + 2,none⟩ = some (.iface 64 (.pointer (some ⟨p3,o3,none⟩)))) (h3 : w.cell? ⟨p3,o3 + 2,none⟩ = some (.iface 64 (.pointer (some ⟨p4,o4,none⟩)))) (h4 : w.cell? ⟨p4,o4 + 2,none⟩ = some (.iface 95 (.pointer (some a)))) (hne : a ≠ b) (ha : w.heap[a.block]? = some (.cells ca ta (0,0))) (hb : w.heap[b.block]? = some (.cells cb tb (0,0))) :
  Calls Tryd.prog 24 #[.iface 64 (.pointer (some ⟨p1,o1,none⟩)),.iface 95 (.pointer (some b))] w fun e w' => e = .returned (.bool false) ∧ w' = w := by
 obtain ⟨i,hi,hcmp⟩ := Option.map_eq_some_iff.1 Tryd.isComp
 obtain ⟨j,hj,hjs⟩ := Option.map_eq_some_iff.1 Tryd.isSize
 have h8 := @run_callFunc_extern Tryd.prog 36 _ Extern.ReflectliteType.typeOf Tryd.func36 (by kernel_rfl) (by kernel_rfl) (by kernel_rfl) (by kernel_rfl)
 have h32 := @run_callFunc_extern Tryd.prog 66 _ cmpF Tryd.func66 (by kernel_rfl) (by kernel_rfl) (by kernel_rfl) (by kernel_rfl)
 have tT := Tryd.isTypeOf
 have cT := Tryd.isComparable
 have mR := Tryd.isMethodComparable
 have nE := Tryd.noIsE
 have uE := Tryd.noUnwrapE
 have vE := Tryd.noUnwrapsE
 have nW := Tryd.noIsW
 have uW := Tryd.hasUnwrapW
 have mU := Tryd.methodUnwrap
 have heq := run_eql_iface_ptr_other (P := Tryd.prog) w Tryd.underlying28 Tryd.underlying95 hi hcmp hj (by rw [hjs]; decide) hne ha hb
 have hty1 := run_eql_iface_types (P := Tryd.prog) 64 95 (.pointer (some ⟨p1,o1,none⟩)) (.pointer (some b)) Tryd.underlying28 (by decide) w
 have hty2 := run_eql_iface_types (P := Tryd.prog) 64 95 (.pointer (some ⟨p2,o2,none⟩)) (.pointer (some b)) Tryd.underlying28 (by decide) w
 have hty3 := run_eql_iface_types (P := Tryd.prog) 64 95 (.pointer (some ⟨p3,o3,none⟩)) (.pointer (some b)) Tryd.underlying28 (by decide) w
 have hty4 := run_eql_iface_types (P := Tryd.prog) 64 95 (.pointer (some ⟨p4,o4,none⟩)) (.pointer (some b)) Tryd.underlying28 (by decide) w
 go_enter Tryd.func24,Tryd.ntmps24
 go_wp2
 refine wp_loop_rounds 5 ?_
 rw [rounds_succ]
 go_wp2
 rw [rounds_succ]
 go_wp2
 rw [rounds_succ]
 go_wp2
 rw [rounds_succ]
 go_wp2
 rw [rounds_succ]
 go_wp2
 go_ret
 exact ⟨rfl,rfl⟩

end Go.Proofs.YtdiekikcnfjlnaaDoor.Err
