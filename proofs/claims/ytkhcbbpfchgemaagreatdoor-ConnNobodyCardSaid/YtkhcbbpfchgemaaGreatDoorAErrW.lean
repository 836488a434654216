/-
  errors.Is and errors.As at an error of fault.New's make, as the model runs them: turned from the kit's worked texts by a program (mkerr.py).
-/
import Derived.Test.YtkhcbbpfchgemaaGreatDoorProg
import Derived.WalkKit
import Derived.LaidEql
import Derived.Stop.Asserts
import Derived.RowKitTokens
namespace Go.Proofs.YtkhcbbpfchgemaaGreatDoor.Err
open Go.RowKit Go.Extern.Stop Go.Stop Go.Extern
set_option linter.unusedVariables false
theorem Tryz.valueOf27 (t : Addr) (w : World) : (ReflectliteValue.unpack (.iface 186 (.pointer (some t)))).run Tryz.prog w
  = .ok (.agg #[.pointer (some ⟨8,186,none⟩),.pointer (some ⟨w.heap.size,0,none⟩),.int .u64 150]) (w.alloc (.cells #[.pointer (some t)] 186)) := by kernel_rfl
theorem Tryz.type27 (a : Addr) (w : World) : (ReflectliteValue.methodAny (ReflectliteValue.valueError "reflectlite.Value.Type" 0) (fun t _ _ _ => ReflectliteType.toType t) #[.agg #[.pointer (some ⟨8, 186, none⟩), .pointer (some a), .int .u64 150]]).run Tryz.prog w
  = .ok (.iface 256 (.agg #[.pointer (some ⟨8,186,none⟩)])) w := by kernel_rfl
theorem Tryz.methodKind (h : Value) (w : World) : (Go.method 437 256 (.agg #[h]) "Kind").run Tryz.prog w = .ok (299, h) w := by kernel_rfl
theorem Tryz.kind27 (w : World) : ((ReflectliteType.abiMethod fun t => (fun a : Nat => Value.int IntKind.u8 (a : Int)) <$> Rtype.kind t) #[.pointer (some ⟨8,186,none⟩)]).run Tryz.prog w = .ok (.int .u8 22) w := by kernel_rfl
theorem Tryz.kind25 (w : World) : ((ReflectliteType.abiMethod fun t => (fun a : Nat => Value.int IntKind.u8 (a : Int)) <$> Rtype.kind t) #[.pointer (some ⟨8,179,none⟩)]).run Tryz.prog w = .ok (.int .u8 22) w := by kernel_rfl

theorem rlm (z : Sem Value) (f : TypeId → Addr → Nat → Nat → Sem Value) (v : Value) :
  ReflectliteValue.method z f #[v] = (do match ← ReflectliteValue.parts v with | none => z | some (t,a,fl) => f t a fl (fl % 32)) := rfl
theorem Tryz.parts27 (a : Addr) (w : World) : (ReflectliteValue.parts (.agg #[.pointer (some ⟨8,186,none⟩),.pointer (some a),.int .u64 150])).run Tryz.prog w = .ok (some (186,a,150)) w := by kernel_rfl
theorem Tryz.isNil27 (a p : Addr) (W : World) (ha : W.cell? a = some (.pointer (some p))) :
  (ReflectliteValue.method (ReflectliteValue.valueError "reflectlite.Value.IsNil" 0) ReflectliteValue.isNil #[.agg #[.pointer (some ⟨8, 186, none⟩), .pointer (some a), .int .u64 150]]).run Tryz.prog W = .ok (.bool false) W := by
 rw [rlm]
 simp only [Sem.run_bind,Tryz.parts27,Result.andThen]
 simp [ReflectliteValue.isNil,loadVar,isAgg,underlying,Tryz.underlying186,ha,Result.andThen]

theorem Tryz.methodElem (h : Value) (w : World) : (Go.method 437 256 (.agg #[h]) "Elem").run Tryz.prog w = .ok (311, .agg #[h]) w := by kernel_rfl
theorem Tryz.methodImplements (h : Value) (w : World) : (Go.method 437 256 (.agg #[h]) "Implements").run Tryz.prog w = .ok (312, .agg #[h]) w := by kernel_rfl
theorem Tryz.methodAssignableTo (h : Value) (w : World) : (Go.method 437 256 (.agg #[h]) "AssignableTo").run Tryz.prog w = .ok (309, .agg #[h]) w := by kernel_rfl
theorem Tryz.elem27 (w : World) : (ReflectliteType.method ReflectliteType.elem #[.agg #[.pointer (some ⟨8,186,none⟩)]]).run Tryz.prog w = .ok (.iface 256 (.agg #[.pointer (some ⟨8,179,none⟩)])) w := by kernel_rfl
theorem Tryz.implements25 (w : World) : (ReflectliteType.relation "Implements" ReflectliteType.implements_ #[.agg #[.pointer (some ⟨8, 179, none⟩)], .iface 256 (.agg #[.pointer (some ⟨8, 38, none⟩)])]).run Tryz.prog w = .ok (.bool true) w := by kernel_rfl
theorem Tryz.typeOf25 (v : Value) (w : World) : (ReflectliteType.typeOf #[.iface 179 v]).run Tryz.prog w = .ok (.iface 256 (.agg #[.pointer (some ⟨8,179,none⟩)])) w := by kernel_rfl
theorem Tryz.assignable25 (w : World) : (ReflectliteType.relation "AssignableTo" ReflectliteType.assignableTo #[.agg #[.pointer (some ⟨8, 179, none⟩)], .iface 256 (.agg #[.pointer (some ⟨8, 179, none⟩)])]).run Tryz.prog w = .ok (.bool true) w := by kernel_rfl
theorem Tryz.valueOf25 (e : Addr) (w : World) : (ReflectliteValue.unpack (.iface 179 (.pointer (some e)))).run Tryz.prog w
  = .ok (.agg #[.pointer (some ⟨8,179,none⟩),.pointer (some ⟨w.heap.size,0,none⟩),.int .u64 150]) (w.alloc (.cells #[.pointer (some e)] 179)) := by kernel_rfl

theorem Tryz.elemOf27 (w : World) : (Rtype.elem? 186).run Tryz.prog w = .ok (some 179) w := by kernel_rfl
theorem Tryz.mk25 (p : Addr) (w : World) : (ReflectliteValue.mk 179 p ReflectliteValue.flagAddr).run Tryz.prog w = .ok (.agg #[.pointer (some ⟨8,179,none⟩),.pointer (some p),.int .u64 406]) w := by kernel_rfl
theorem Tryz.elemV27 (a p : Addr) (W : World) (ha : W.cell? a = some (.pointer (some p))) :
  (ReflectliteValue.method (ReflectliteValue.valueError "reflectlite.Value.Elem" 0) ReflectliteValue.elem #[.agg #[.pointer (some ⟨8, 186, none⟩), .pointer (some a), .int .u64 150]]).run Tryz.prog W
   = .ok (.agg #[.pointer (some ⟨8,179,none⟩),.pointer (some p),.int .u64 406]) W := by
 rw [rlm]
 simp only [Sem.run_bind,Tryz.parts27,Result.andThen]
 simp [ReflectliteValue.elem,loadVar,isAgg,underlying,Tryz.underlying186,ha,Result.andThen,Tryz.elemOf27,Tryz.mk25]
theorem rls (v x : Value) : ReflectliteValue.set #[v,x] = (do
  let (some (dst,a,fl),some (src,b,_)) := (← ReflectliteValue.parts v,← ReflectliteValue.parts x)
   | unsupported (.noEntry "extern/(internal/reflectlite.Value).Set.zeroValue")
  if fl / ReflectliteValue.flagAddr % 2 == 0 then unsupported (.noEntry "extern/(internal/reflectlite.Value).Set.unaddressable")
  let val ← loadVar src b
  if ← Rtype.directlyAssignable dst src then storeVar dst a val
  else if ← Rtype.implements dst src then
   if (← Rtype.kind src) == 20 then
    match val with
    | .nilIface => unsupported (.noEntry "extern/reflectlite: a nil value of one interface type handed on as a value of another")
    | _ => storeVar dst a val
   else storeVar dst a (.iface src val)
  else panicString ("reflectlite.Set: value of type " ++ (← Rtype.spelt src) ++ " is not assignable to type " ++ (← Rtype.spelt dst))
  pure (.tuple #[])) := rfl
theorem Tryz.parts25a (a : Addr) (w : World) : (ReflectliteValue.parts (.agg #[.pointer (some ⟨8,179,none⟩),.pointer (some a),.int .u64 406])).run Tryz.prog w = .ok (some (179,a,406)) w := by kernel_rfl
theorem Tryz.parts25 (a : Addr) (w : World) : (ReflectliteValue.parts (.agg #[.pointer (some ⟨8,179,none⟩),.pointer (some a),.int .u64 150])).run Tryz.prog w = .ok (some (179,a,150)) w := by kernel_rfl
theorem Tryz.direct25 (w : World) : (Rtype.directlyAssignable 179 179).run Tryz.prog w = .ok true w := by kernel_rfl
theorem Tryz.set25 (ta b e : Addr) (old : Value) (W : World) (hb : W.cell? b = some (.pointer (some e))) (ht : W.cell? ta = some old) (hf : W.frozen? ta = false) :
  (ReflectliteValue.set #[.agg #[.pointer (some ⟨8,179,none⟩),.pointer (some ta),.int .u64 406],.agg #[.pointer (some ⟨8,179,none⟩),.pointer (some b),.int .u64 150]]).run Tryz.prog W
   = .ok (.tuple #[]) (W.setCell ta (.pointer (some e))) := by
 rw [rls]
 simp only [Sem.run_bind,Tryz.parts25a,Tryz.parts25,Result.andThen]
 simp [ReflectliteValue.flagAddr,loadVar,isAgg,underlying,Tryz.underlying179,hb,Result.andThen,Tryz.direct25,storeVar,Value.cells,storeCells,Addr.add]
 rw [run_store Tryz.prog W ta _ _ (by rfl)]
 simp [ht,hf]

set_option maxHeartbeats 8000000 in
theorem as_hit (e t : Addr) (old : Value) (w : World) (hg : w.cell? ⟨7,0,none⟩ = some (.iface 256 (.agg #[.pointer (some ⟨8,38,none⟩)]))) (ht0 : w.cell? t = some old) (hf0 : w.frozen? t = false) :
  Calls Tryz.prog 129 #[.iface 179 (.pointer (some e)),.iface 186 (.pointer (some t))] w fun ev w' => ev = .returned (.bool true) ∧ w' = ((((w.alloc (.cells #[.pointer (some t)] 186)).alloc (.cells #[.pointer (some ⟨8,186,none⟩),.pointer (some ⟨w.heap.size,0,none⟩),.int .u64 150] 227)).alloc (.cells #[.pointer (some ⟨8,186,none⟩),.pointer (some ⟨w.heap.size,0,none⟩),.int .u64 150] 227)).alloc (.cells #[.pointer (some e)] 179)).setCell t (.pointer (some e)) := by
 have h6 := @run_callFunc_extern Tryz.prog 188 _ (fun args => ReflectliteValue.unpack (args.getD 0 (.tuple #[]))) Tryz.func188 (by kernel_rfl) (by kernel_rfl) (by kernel_rfl) (by kernel_rfl)
 have h7 := @run_callFunc_extern Tryz.prog 189 _ (ReflectliteValue.methodAny (ReflectliteValue.valueError "reflectlite.Value.Type" 0) (fun t _ _ _ => ReflectliteType.toType t)) Tryz.func189 (by kernel_rfl) (by kernel_rfl) (by kernel_rfl) (by kernel_rfl)
 have h8 := @run_callFunc_extern Tryz.prog 190 _ (ReflectliteValue.method (ReflectliteValue.valueError "reflectlite.Value.IsNil" 0) ReflectliteValue.isNil) Tryz.func190 (by kernel_rfl) (by kernel_rfl) (by kernel_rfl) (by kernel_rfl)
 have h27 := @run_callFunc_extern Tryz.prog 299 _ (ReflectliteType.abiMethod fun t => do pure (.int .u8 (← Rtype.kind t))) Tryz.func299 (by kernel_rfl) (by kernel_rfl) (by kernel_rfl) (by kernel_rfl)
 have h37 := @run_callFunc_extern Tryz.prog 311 _ (ReflectliteType.method ReflectliteType.elem) Tryz.func311 (by kernel_rfl) (by kernel_rfl) (by kernel_rfl) (by kernel_rfl)
 have h38 := @run_callFunc_extern Tryz.prog 312 _ (ReflectliteType.relation "Implements" ReflectliteType.implements_) Tryz.func312 (by kernel_rfl) (by kernel_rfl) (by kernel_rfl) (by kernel_rfl)
 have h10 := @run_callFunc_extern Tryz.prog 159 _ ReflectliteType.typeOf Tryz.func159 (by kernel_rfl) (by kernel_rfl) (by kernel_rfl) (by kernel_rfl)
 have h35 := @run_callFunc_extern Tryz.prog 309 _ (ReflectliteType.relation "AssignableTo" ReflectliteType.assignableTo) Tryz.func309 (by kernel_rfl) (by kernel_rfl) (by kernel_rfl) (by kernel_rfl)
 have h11 := @run_callFunc_extern Tryz.prog 247 _ (ReflectliteValue.method (ReflectliteValue.valueError "reflectlite.Value.Elem" 0) ReflectliteValue.elem) Tryz.func247 (by kernel_rfl) (by kernel_rfl) (by kernel_rfl) (by kernel_rfl)
 have h12 := @run_callFunc_extern Tryz.prog 248 _ ReflectliteValue.set Tryz.func248 (by kernel_rfl) (by kernel_rfl) (by kernel_rfl) (by kernel_rfl)
 have tO := Tryz.typeOf25
 have mA := Tryz.methodAssignableTo
 have a25 := Tryz.assignable25
 have v25 := Tryz.valueOf25
 have f6 := Tryz.valueOf27
 have f7 := Tryz.type27
 have mK := Tryz.methodKind
 have mE := Tryz.methodElem
 have mI := Tryz.methodImplements
 have k27 := Tryz.kind27
 have k25 := Tryz.kind25
 have e27 := Tryz.elem27
 have i25 := Tryz.implements25
 have n8 := Tryz.isNil27 ⟨w.heap.size,0,none⟩ t ((w.alloc (.cells #[.pointer (some t)] 186)).alloc (.cells #[.pointer (some ⟨8,186,none⟩),.pointer (some ⟨w.heap.size,0,none⟩),.int .u64 150] 227)) (by simp)
 have hlt : 7 < w.heap.size := by
  rcases Nat.lt_or_ge 7 w.heap.size with h | h
  ·exact h
  ·simp [World.cell?,Array.getElem?_eq_none h] at hg
 have hg2 : ((w.alloc (.cells #[.pointer (some t)] 186)).alloc (.cells #[.pointer (some ⟨8,186,none⟩),.pointer (some ⟨w.heap.size,0,none⟩),.int .u64 150] 227)).cell? ⟨7,0,none⟩ = some (.iface 256 (.agg #[.pointer (some ⟨8,38,none⟩)])) := by
  rw [World.cell?_alloc_lt _ _ ⟨7,0,none⟩ (by simp; omega),World.cell?_alloc_lt _ _ ⟨7,0,none⟩ hlt]; exact hg
 have htl : t.block < w.heap.size := by
  rcases Nat.lt_or_ge t.block w.heap.size with h | h
  ·exact h
  ·simp [World.cell?,Array.getElem?_eq_none h] at ht0
 have el := Tryz.elemV27 ⟨w.heap.size,0,none⟩ t (((w.alloc (.cells #[.pointer (some t)] 186)).alloc (.cells #[.pointer (some ⟨8,186,none⟩),.pointer (some ⟨w.heap.size,0,none⟩),.int .u64 150] 227)).alloc (.cells #[.pointer (some ⟨8,186,none⟩),.pointer (some ⟨w.heap.size,0,none⟩),.int .u64 150] 227)) (by rw [World.cell?_alloc_lt _ _ ⟨w.heap.size,0,none⟩ (by simp; omega)]; simp)
 have st := Tryz.set25 t ⟨w.heap.size + 1 + 1 + 1,0,none⟩ e old ((((w.alloc (.cells #[.pointer (some t)] 186)).alloc (.cells #[.pointer (some ⟨8,186,none⟩),.pointer (some ⟨w.heap.size,0,none⟩),.int .u64 150] 227)).alloc (.cells #[.pointer (some ⟨8,186,none⟩),.pointer (some ⟨w.heap.size,0,none⟩),.int .u64 150] 227)).alloc (.cells #[.pointer (some e)] 179))
  (by rw [World.cell?_alloc_at _ _ _ _ (by simp)]; rfl)
  (by rw [World.cell?_alloc_lt _ _ t (by simp; omega),World.cell?_alloc_lt _ _ t (by simp; omega),World.cell?_alloc_lt _ _ t (by simp; omega),World.cell?_alloc_lt _ _ t htl]; exact ht0)
  (by rw [World.frozen?_alloc_old _ _ t (by simp; omega),World.frozen?_alloc_old _ _ t (by simp; omega),World.frozen?_alloc_old _ _ t (by simp; omega),World.frozen?_alloc_old _ _ t (Nat.ne_of_lt htl)]; exact hf0)
 go_enter Tryz.func129,Tryz.ntmps129
 go_wp2
 refine wp_loop_rounds 1 ?_
 rw [rounds_succ]
 go_wp2
 go_ret
 exact ⟨rfl,rfl⟩
def cmpF : Array Value → Sem Value := Extern.ReflectliteType.method fun t => do
 Rtype.noPackHeld "Comparable" t
 pure (.bool (← typeInfo t).comparable)
theorem Tryz.isTypeOf (v : Value) (w : World) : (Extern.ReflectliteType.typeOf #[.iface 306 v]).run Tryz.prog w = .ok (.iface 256 (.agg #[.pointer (some ⟨8,306,none⟩)])) w := by kernel_rfl
theorem Tryz.isComparable (w : World) : (cmpF #[.agg #[.pointer (some ⟨8,306,none⟩)]]).run Tryz.prog w = .ok (.bool true) w := by kernel_rfl
theorem Tryz.isMethodComparable (v : Value) (w : World) : (Go.method 437 256 v "Comparable").run Tryz.prog w = .ok (310, v) w := by kernel_rfl
theorem Tryz.isComp : (Tryz.prog.info? 306).map (·.comparable) = some true := by kernel_rfl
theorem Tryz.isSize : (Tryz.prog.info? 326).map (·.size) = some 1 := by kernel_rfl

theorem Tryz.noIsE (v : Value) (xT : TypeId) (w : World) : (Instr.typeAssert (.iface 306 v) xT 258 true).run Tryz.prog w = .ok (.tuple #[.nilIface,.bool false]) w := run_typeAssert_lacksB Tryz.underlying258 (by kernel_rfl) (by kernel_rfl) v xT w
theorem Tryz.noUnwrapE (v : Value) (xT : TypeId) (w : World) : (Instr.typeAssert (.iface 306 v) xT 261 true).run Tryz.prog w = .ok (.tuple #[.nilIface,.bool false]) w := run_typeAssert_lacksB Tryz.underlying261 (by kernel_rfl) (by kernel_rfl) v xT w
theorem Tryz.noUnwrapsE (v : Value) (xT : TypeId) (w : World) : (Instr.typeAssert (.iface 306 v) xT 262 true).run Tryz.prog w = .ok (.tuple #[.nilIface,.bool false]) w := run_typeAssert_lacksB Tryz.underlying262 (by kernel_rfl) (by kernel_rfl) v xT w
theorem Tryz.noIsW (v : Value) (xT : TypeId) (w : World) : (Instr.typeAssert (.iface 179 v) xT 258 true).run Tryz.prog w = .ok (.tuple #[.nilIface,.bool false]) w := run_typeAssert_lacksB Tryz.underlying258 (by kernel_rfl) (by kernel_rfl) v xT w
theorem Tryz.hasUnwrapW (v : Value) (xT : TypeId) (w : World) : (Instr.typeAssert (.iface 179 v) xT 261 true).run Tryz.prog w = .ok (.tuple #[.iface 179 v,.bool true]) w := run_typeAssert_hasB Tryz.underlying261 (by kernel_rfl) v xT w
theorem Tryz.methodUnwrap (v : Value) (w : World) : (Go.method 437 179 v "Unwrap").run Tryz.prog w = .ok (304, v) w := by kernel_rfl

theorem is_same (a : Addr) (w : World) :
  Calls Tryz.prog 95 #[.iface 306 (.pointer (some a)),.iface 306 (.pointer (some a))] w fun e w' => e = .returned (.bool true) ∧ w' = w := by
 obtain ⟨i,hi,hcmp⟩ := Option.map_eq_some_iff.1 Tryz.isComp
 obtain ⟨j,hj,hjs⟩ := Option.map_eq_some_iff.1 Tryz.isSize
 have h8 := @run_callFunc_extern Tryz.prog 159 _ Extern.ReflectliteType.typeOf Tryz.func159 (by kernel_rfl) (by kernel_rfl) (by kernel_rfl) (by kernel_rfl)
 have h32 := @run_callFunc_extern Tryz.prog 310 _ cmpF Tryz.func310 (by kernel_rfl) (by kernel_rfl) (by kernel_rfl) (by kernel_rfl)
 have tT := Tryz.isTypeOf
 have cT := Tryz.isComparable
 have mR := Tryz.isMethodComparable
 have heq := run_eql_iface_ptr_same (P := Tryz.prog) w a Tryz.underlying38 Tryz.underlying306 hi hcmp hj
 go_enter Tryz.func95,Tryz.ntmps95
 go_wp2
 refine wp_loop_rounds 1 ?_
 rw [rounds_succ]
 go_wp2
 go_ret
 exact ⟨rfl,rfl⟩

theorem is_nil (b : Addr) (w : World) :
  Calls Tryz.prog 95 #[.nilIface,.iface 306 (.pointer (some b))] w fun e w' => e = .returned (.bool false) ∧ w' = w := by
 have hn := run_eql_iface_nil_left (P := Tryz.prog) w 306 (.pointer (some b)) Tryz.underlying38
 go_enter Tryz.func95,Tryz.ntmps95
 go_wp2
 go_ret
 exact ⟨rfl,rfl⟩

theorem is_other (a b : Addr) (ca cb : Array Value) (ta tb : TypeId) (w : World) (hne : a ≠ b) (ha : w.heap[a.block]? = some (.cells ca ta (0,0))) (hb : w.heap[b.block]? = some (.cells cb tb (0,0))) :
  Calls Tryz.prog 95 #[.iface 306 (.pointer (some a)),.iface 306 (.pointer (some b))] w fun e w' => e = .returned (.bool false) ∧ w' = w := by
 obtain ⟨i,hi,hcmp⟩ := Option.map_eq_some_iff.1 Tryz.isComp
 obtain ⟨j,hj,hjs⟩ := Option.map_eq_some_iff.1 Tryz.isSize
 have h8 := @run_callFunc_extern Tryz.prog 159 _ Extern.ReflectliteType.typeOf Tryz.func159 (by kernel_rfl) (by kernel_rfl) (by kernel_rfl) (by kernel_rfl)
 have h32 := @run_callFunc_extern Tryz.prog 310 _ cmpF Tryz.func310 (by kernel_rfl) (by kernel_rfl) (by kernel_rfl) (by kernel_rfl)
 have tT := Tryz.isTypeOf
 have cT := Tryz.isComparable
 have mR := Tryz.isMethodComparable
 have nE := Tryz.noIsE
 have uE := Tryz.noUnwrapE
 have vE := Tryz.noUnwrapsE
 have nW := Tryz.noIsW
 have uW := Tryz.hasUnwrapW
 have mU := Tryz.methodUnwrap
 have heq := run_eql_iface_ptr_other (P := Tryz.prog) w Tryz.underlying38 Tryz.underlying306 hi hcmp hj (by rw [hjs]; decide) hne ha hb
 go_enter Tryz.func95,Tryz.ntmps95
 go_wp2
 refine wp_loop_rounds 1 ?_
 rw [rounds_succ]
 go_wp2
 go_ret
 exact ⟨rfl,rfl⟩

theorem is_wrap_same1 (p1 o1 : Nat) (b : Addr) (w : World) (h1 : w.cell? ⟨p1,o1 + 2,none⟩ = some (.iface 306 (.pointer (some b)))) :
  Calls Tryz.prog 95 #[.iface 179 (.pointer (some ⟨p1,o1,none⟩)),.iface 306 (.pointer (some b))] w fun e w' => e = .returned (.bool true) ∧ w' = w := by
 obtain ⟨i,hi,hcmp⟩ := Option.map_eq_some_iff.1 Tryz.isComp
 obtain ⟨j,hj,hjs⟩ := Option.map_eq_some_iff.1 Tryz.isSize
 have h8 := @run_callFunc_extern Tryz.prog 159 _ Extern.ReflectliteType.typeOf Tryz.func159 (by kernel_rfl) (by kernel_rfl) (by kernel_rfl) (by kernel_rfl)
 have h32 := @run_callFunc_extern Tryz.prog 310 _ cmpF Tryz.func310 (by kernel_rfl) (by kernel_rfl) (by kernel_rfl) (by kernel_rfl)
 have tT := Tryz.isTypeOf
 have cT := Tryz.isComparable
 have mR := Tryz.isMethodComparable
 have nE := Tryz.noIsE
 have uE := Tryz.noUnwrapE
 have vE := Tryz.noUnwrapsE
 have nW := Tryz.noIsW
 have uW := Tryz.hasUnwrapW
 have mU := Tryz.methodUnwrap
 have heq := run_eql_iface_ptr_same (P := Tryz.prog) w b Tryz.underlying38 Tryz.underlying306 hi hcmp hj
 have hty1 := run_eql_iface_types (P := Tryz.prog) 179 306 (.pointer (some ⟨p1,o1,none⟩)) (.pointer (some b)) Tryz.underlying38 (by decide) w
 go_enter Tryz.func95,Tryz.ntmps95
 go_wp2
 refine wp_loop_rounds 2 ?_
 rw [rounds_succ]
 go_wp2
 rw [rounds_succ]
 go_wp2
 go_ret
 exact ⟨rfl,rfl⟩

theorem is_wrap_same2 (p1 o1 p2 o2 : Nat) (b : Addr) (w : World) (h1 : w.cell? ⟨p1,o1 + 2,none⟩ = some (.iface 179 (.pointer (some ⟨p2,o2,none⟩)))) (h2 : w.cell? ⟨p2,o2 + 2,none⟩ = some (.iface 306 (.pointer (some b)))) :
  Calls Tryz.prog 95 #[.iface 179 (.pointer (some ⟨p1,o1,none⟩)),.iface 306 (.pointer (some b))] w fun e w' => e = .returned (.bool true) ∧ w' = w := by
 obtain ⟨i,hi,hcmp⟩ := Option.map_eq_some_iff.1 Tryz.isComp
 obtain ⟨j,hj,hjs⟩ := Option.map_eq_some_iff.1 Tryz.isSize
 have h8 := @run_callFunc_extern Tryz.prog 159 _ Extern.ReflectliteType.typeOf Tryz.func159 (by kernel_rfl) (by kernel_rfl) (by kernel_rfl) (by kernel_rfl)
 have h32 := @run_callFunc_extern Tryz.prog 310 _ cmpF Tryz.func310 (by kernel_rfl) (by kernel_rfl) (by kernel_rfl) (by kernel_rfl)
 have tT := Tryz.isTypeOf
 have cT := Tryz.isComparable
 have mR := Tryz.isMethodComparable
 have nE := Tryz.noIsE
 have uE := Tryz.noUnwrapE
 have vE := Tryz.noUnwrapsE
 have nW := Tryz.noIsW
 have uW := Tryz.hasUnwrapW
 have mU := Tryz.methodUnwrap
 have heq := run_eql_iface_ptr_same (P := Tryz.prog) w b Tryz.underlying38 Tryz.underlying306 hi hcmp hj
 have hty1 := run_eql_iface_types (P := Tryz.prog) 179 306 (.pointer (some ⟨p1,o1,none⟩)) (.pointer (some b)) Tryz.underlying38 (by decide) w
 have hty2 := run_eql_iface_types (P := Tryz.prog) 179 306 (.pointer (some ⟨p2,o2,none⟩)) (.pointer (some b)) Tryz.underlying38 (by decide) w
 go_enter Tryz.func95,Tryz.ntmps95
 go_wp2
 refine wp_loop_rounds 3 ?_
 rw [rounds_succ]
 go_wp2
 rw [rounds_succ]
 go_wp2
 rw [rounds_succ]
 go_wp2
 go_ret
 exact ⟨rfl,rfl⟩

theorem is_wrap_same3 (p1 o1 p2 o2 p3 o3 : Nat) (b : Addr) (w : World) (h1 : w.cell? ⟨p1,o1 + 2,none⟩ = some (.iface 179 (.pointer (some ⟨p2,o2,none⟩)))) (h2 : w.cell? ⟨p2,o2 + 2,none⟩ = some (.iface 179 (.pointer (some ⟨p3,o3,none⟩)))) (h3 : w.cell? ⟨p3,o3 + 2,none⟩ = some (.iface 306 (.pointer (some b)))) :
  Calls Tryz.prog 95 #[.iface 179 (.pointer (some ⟨p1,o1,none⟩)),.iface 306 (.pointer (some b))] w fun e w' => e = .returned (.bool true) ∧ w' = w := by
 obtain ⟨i,hi,hcmp⟩ := Option.map_eq_some_iff.1 Tryz.isComp
 obtain ⟨j,hj,hjs⟩ := Option.map_eq_some_iff.1 Tryz.isSize
 have h8 := @run_callFunc_extern Tryz.prog 159 _ Extern.ReflectliteType.typeOf Tryz.func159 (by kernel_rfl) (by kernel_rfl) (by kernel_rfl) (by kernel_rfl)
 have h32 := @run_callFunc_extern Tryz.prog 310 _ cmpF Tryz.func310 (by kernel_rfl) (by kernel_rfl) (by kernel_rfl) (by kernel_rfl)
 have tT := Tryz.isTypeOf
 have cT := Tryz.isComparable
 have mR := Tryz.isMethodComparable
 have nE := Tryz.noIsE
 have uE := Tryz.noUnwrapE
 have vE := Tryz.noUnwrapsE
 have nW := Tryz.noIsW
 have uW := Tryz.hasUnwrapW
 have mU := Tryz.methodUnwrap
 have heq := run_eql_iface_ptr_same (P := Tryz.prog) w b Tryz.underlying38 Tryz.underlying306 hi hcmp hj
 have hty1 := run_eql_iface_types (P := Tryz.prog) 179 306 (.pointer (some ⟨p1,o1,none⟩)) (.pointer (some b)) Tryz.underlying38 (by decide) w
 have hty2 := run_eql_iface_types (P := Tryz.prog) 179 306 (.pointer (some ⟨p2,o2,none⟩)) (.pointer (some b)) Tryz.underlying38 (by decide) w
 have hty3 := run_eql_iface_types (P := Tryz.prog) 179 306 (.pointer (some ⟨p3,o3,none⟩)) (.pointer (some b)) Tryz.underlying38 (by decide) w
 go_enter Tryz.func95,Tryz.ntmps95
 go_wp2
 refine wp_loop_rounds 4 ?_
 rw [rounds_succ]
 go_wp2
 rw [rounds_succ]
 go_wp2
 rw [rounds_succ]
 go_wp2
 rw [rounds_succ]
 go_wp2
 go_ret
 exact ⟨rfl,rfl⟩

theorem is_wrap_same4 (p1 o1 p2 o2 p3 o3 p4 o4 : Nat) (b : Addr) (w : World) (h1 : w.cell? ⟨p1,o1 + 2,none⟩ = some (.iface 179 (.pointer (some ⟨p2,o2,none⟩)))) (h2 : w.cell? ⟨p2,o2 + 2,none⟩ = some (.iface 179 (.pointer (some ⟨p3,o3,none⟩)))) (h3 : w.cell? ⟨p3,o3 + 2,none⟩ = some (.iface 179 (.pointer (some ⟨p4,o4,none⟩)))) (h4 : w.cell? ⟨p4,o4 + 2,none⟩ = some (.iface 306 (.pointer (some b)))) :
  Calls Tryz.prog 95 #[.iface 179 (.pointer (some ⟨p1,o1,none⟩)),.iface 306 (.pointer (some b))] w fun e w' => e = .returned (.bool true) ∧ w' = w := by
 obtain ⟨i,hi,hcmp⟩ := Option.map_eq_some_iff.1 Tryz.isComp
 obtain ⟨j,hj,hjs⟩ := Option.map_eq_some_iff.1 Tryz.isSize
 have h8 := @run_callFunc_extern Tryz.prog 159 _ Extern.ReflectliteType.typeOf Tryz.func159 (by kernel_rfl) (by kernel_rfl) (by kernel_rfl) (by kernel_rfl)
 have h32 := @run_callFunc_extern Tryz.prog 310 _ cmpF Tryz.func310 (by kernel_rfl) (by kernel_rfl) (by kernel_rfl) (by kernel_rfl)
 have tT := Tryz.isTypeOf
 have cT := Tryz.isComparable
 have mR := Tryz.isMethodComparable
 have nE := Tryz.noIsE
 have uE := Tryz.noUnwrapE
 have vE := Tryz.noUnwrapsE
 have nW := Tryz.noIsW
 have uW := Tryz.hasUnwrapW
 have mU := Tryz.methodUnwrap
 have heq := run_eql_iface_ptr_same (P := Tryz.prog) w b Tryz.underlying38 Tryz.underlying306 hi hcmp hj
 have hty1 := run_eql_iface_types (P := Tryz.prog) 179 306 (.pointer (some ⟨p1,o1,none⟩)) (.pointer (some b)) Tryz.underlying38 (by decide) w
 have hty2 := run_eql_iface_types (P := Tryz.prog) 179 306 (.pointer (some ⟨p2,o2,none⟩)) (.pointer (some b)) Tryz.underlying38 (by decide) w
 have hty3 := run_eql_iface_types (P := Tryz.prog) 179 306 (.pointer (some ⟨p3,o3,none⟩)) (.pointer (some b)) Tryz.underlying38 (by decide) w
 have hty4 := run_eql_iface_types (P := Tryz.prog) 179 306 (.pointer (some ⟨p4,o4,none⟩)) (.pointer (some b)) Tryz.underlying38 (by decide) w
 go_enter Tryz.func95,Tryz.ntmps95
 go_wp2
 refine wp_loop_rounds 5 ?_
 rw [rounds_succ]
 go_wp2
 rw [rounds_succ]
 go_wp2
 rw [rounds_succ]
 go_wp2
 rw [rounds_succ]
 go_wp2
 rw [rounds_succ]
 go_wp2
 go_ret
 exact ⟨rfl,rfl⟩

theorem is_wrap_other1 (p1 o1 : Nat) (b a : Addr) (ca cb : Array Value) (ta tb : TypeId) (w : World) (h1 : w.cell? ⟨p1,o1 + 2,none⟩ = some (.iface 306 (.pointer (some a)))) (hne : a ≠ b) (ha : w.heap[a.block]? = some (.cells ca ta (0,0))) (hb : w.heap[b.block]? = some (.cells cb tb (0,0))) :
  Calls Tryz.prog 95 #[.iface 179 (.pointer (some ⟨p1,o1,none⟩)),.iface 306 (.pointer (some b))] w fun e w' => e = .returned (.bool false) ∧ w' = w := by
 obtain ⟨i,hi,hcmp⟩ := Option.map_eq_some_iff.1 Tryz.isComp
 obtain ⟨j,hj,hjs⟩ := Option.map_eq_some_iff.1 Tryz.isSize
 have h8 := @run_callFunc_extern Tryz.prog 159 _ Extern.ReflectliteType.typeOf Tryz.func159 (by kernel_rfl) (by kernel_rfl) (by kernel_rfl) (by kernel_rfl)
 have h32 := @run_callFunc_extern Tryz.prog 310 _ cmpF Tryz.func310 (by kernel_rfl) (by kernel_rfl) (by kernel_rfl) (by kernel_rfl)
 have tT := Tryz.isTypeOf
 have cT := Tryz.isComparable
 have mR := Tryz.isMethodComparable
 have nE := Tryz.noIsE
 have uE := Tryz.noUnwrapE
 have vE := Tryz.noUnwrapsE
 have nW := Tryz.noIsW
 have uW := Tryz.hasUnwrapW
 have mU := Tryz.methodUnwrap
 have heq := run_eql_iface_ptr_other (P := Tryz.prog) w Tryz.underlying38 Tryz.underlying306 hi hcmp hj (by rw [hjs]; decide) hne ha hb
 have hty1 := run_eql_iface_types (P := Tryz.prog) 179 306 (.pointer (some ⟨p1,o1,none⟩)) (.pointer (some b)) Tryz.underlying38 (by decide) w
 go_enter Tryz.func95,Tryz.ntmps95
 go_wp2
 refine wp_loop_rounds 2 ?_
 rw [rounds_succ]
 go_wp2
 rw [rounds_succ]
 go_wp2
 go_ret
 exact ⟨rfl,rfl⟩

theorem is_wrap_other2 (p1 o1 p2 o2 : Nat) (b a : Addr) (ca cb : Array Value) (ta tb : TypeId) (w : World) (h1 : w.cell? ⟨p1,o1 + 2,none⟩ = some (.iface 179 (.pointer (some ⟨p2,o2,none⟩)))) (h2 : w.cell? ⟨p2,o2 + 2,none⟩ = some (.iface 306 (.pointer (some a)))) (hne : a ≠ b) (ha : w.heap[a.block]? = some (.cells ca ta (0,0))) (hb : w.heap[b.block]? = some (.cells cb tb (0,0))) :
  Calls Tryz.prog 95 #[.iface 179 (.pointer (some ⟨p1,o1,none⟩)),.iface 306 (.pointer (some b))] w fun e w' => e = .returned (.bool false) ∧ w' = w := by
 obtain ⟨i,hi,hcmp⟩ := Option.map_eq_some_iff.1 Tryz.isComp
 obtain ⟨j,hj,hjs⟩ := Option.map_eq_some_iff.1 Tryz.isSize
 have h8 := @run_callFunc_extern Tryz.prog 159 _ Extern.ReflectliteType.typeOf Tryz.func159 (by kernel_rfl) (by kernel_rfl) (by kernel_rfl) (by kernel_rfl)
 have h32 := @run_callFunc_extern Tryz.prog 310 _ cmpF Tryz.func310 (by kernel_rfl) (by kernel_rfl) (by kernel_rfl) (by kernel_rfl)
 have tT := Tryz.isTypeOf
 have cT := Tryz.isComparable
 have mR := Tryz.isMethodComparable
 have nE := Tryz.noIsE
 have uE := Tryz.noUnwrapE
 have vE := Tryz.noUnwrapsE
 have nW := Tryz.noIsW
 have uW := Tryz.hasUnwrapW
 have mU := Tryz.methodUnwrap
 have heq := run_eql_iface_ptr_other (P := Tryz.prog) w Tryz.underlying38 Tryz.underlying306 hi hcmp hj (by rw [hjs]; decide) hne ha hb
 have hty1 := run_eql_iface_types (P := Tryz.prog) 179 306 (.pointer (some ⟨p1,o1,none⟩)) (.pointer (some b)) Tryz.underlying38 (by decide) w
 have hty2 := run_eql_iface_types (P := Tryz.prog) 179 306 (.pointer (some ⟨p2,o2,none⟩)) (.pointer (some b)) Tryz.underlying38 (by decide) w
 go_enter Tryz.func95,Tryz.ntmps95
 go_wp2
 refine wp_loop_rounds 3 ?_
 rw [rounds_succ]
 go_wp2
 rw [rounds_succ]
 go_wp2
 rw [rounds_succ]
 go_wp2
 go_ret
 exact ⟨rfl,rfl⟩

theorem is_wrap_other3 (p1 o1 p2 o2 p3 o3 : Nat) (b a : Addr) (ca cb : Array Value) (ta tb : TypeId) (w : World) (h1 : w.cell? ⟨p1,o1 + 2,none⟩ = some (.iface 179 (.pointer (some ⟨p2,o2,none⟩)))) (h2 : w.cell? ⟨p2,o2 + 2,none⟩ = some (.iface 179 (.pointer (some ⟨p3,o3,none⟩)))) (h3 : w.cell? ⟨p3,o3 + 2,none⟩ = some (.iface 306 (.pointer (some a)))) (hne : a ≠ b) (ha : w.heap[a.block]? = some (.cells ca ta (0,0))) (hb : w.heap[b.block]? = some (.cells cb tb (0,0))) :
  Calls Tryz.prog 95 #[.iface 179 (.pointer (some ⟨p1,o1,none⟩)),.iface 306 (.pointer (some b))] w fun e w' => e = .returned (.bool false) ∧ w' = w := by
 obtain ⟨i,hi,hcmp⟩ := Option.map_eq_some_iff.1 Tryz.isComp
 obtain ⟨j,hj,hjs⟩ := Option.map_eq_some_iff.1 Tryz.isSize
 have h8 := @run_callFunc_extern Tryz.prog 159 _ Extern.ReflectliteType.typeOf Tryz.func159 (by kernel_rfl) (by kernel_rfl) (by kernel_rfl) (by kernel_rfl)
 have h32 := @run_callFunc_extern Tryz.prog 310 _ cmpF Tryz.func310 (by kernel_rfl) (by kernel_rfl) (by kernel_rfl) (by kernel_rfl)
 have tT := Tryz.isTypeOf
 have cT := Tryz.isComparable
 have mR := Tryz.isMethodComparable
 have nE := Tryz.noIsE
 have uE := Tryz.noUnwrapE
 have vE := Tryz.noUnwrapsE
 have nW := Tryz.noIsW
 have uW := Tryz.hasUnwrapW
 have mU := Tryz.methodUnwrap
 have heq := run_eql_iface_ptr_other (P := Tryz.prog) w Tryz.underlying38 Tryz.underlying306 hi hcmp hj (by rw [hjs]; decide) hne ha hb
 have hty1 := run_eql_iface_types (P := Tryz.prog) 179 306 (.pointer (some ⟨p1,o1,none⟩)) (.pointer (some b)) Tryz.underlying38 (by decide) w
 have hty2 := run_eql_iface_types (P := Tryz.prog) 179 306 (.pointer (some ⟨p2,o2,none⟩)) (.pointer (some b)) Tryz.underlying38 (by decide) w
 have hty3 := run_eql_iface_types (P := Tryz.prog) 179 306 (.pointer (some ⟨p3,o3,none⟩)) (.pointer (some b)) Tryz.underlying38 (by decide) w
 go_enter Tryz.func95,Tryz.ntmps95
 go_wp2
 refine wp_loop_rounds 4 ?_
 rw [rounds_succ]
 go_wp2
 rw [rounds_succ]
 go_wp2
 rw [rounds_succ]
 go_wp2
 rw [rounds_succ]
 go_wp2
 go_ret
 exact ⟨rfl,rfl⟩

theorem is_wrap_other4 (p1 o1 p2 o2 p3 o3 p4 o4 : Nat) (b a : Addr) (ca cb : Array Value) (ta tb : TypeId) (w : World) (h1 : w.cell? ⟨p1,o1 + 2,none⟩ = some (.iface 179 (.pointer (some ⟨p2,o2,none⟩)))) (h2 : w.cell? ⟨p2,o2 + 2,none⟩ = some (.iface 179 (.pointer (some ⟨p3,o3,none⟩)))) (h3 : w.cell? ⟨p3,o3 + 2,none⟩ = some (.iface 179 (.pointer (some ⟨p4,o4,none⟩)))) (h4 : w.cell? ⟨p4,o4 + 2,none⟩ = some (.iface 306 (.pointer (some a)))) (hne : a ≠ b) (ha : w.heap[a.block]? = some (.cells ca ta (0,0))) (hb : w.heap[b.block]? = some (.cells cb tb (0,0))) :
  Calls Tryz.prog 95 #[.iface 179 (.pointer (some ⟨p1,o1,none⟩)),.iface 306 (.pointer (some b))] w fun e w' => e = .returned (.bool false) ∧ w' = w := by
 obtain ⟨i,hi,hcmp⟩ := Option.map_eq_some_iff.1 Tryz.isComp
 obtain ⟨j,hj,hjs⟩ := Option.map_eq_some_iff.1 Tryz.isSize
 have h8 := @run_callFunc_extern Tryz.prog 159 _ Extern.ReflectliteType.typeOf Tryz.func159 (by kernel_rfl) (by kernel_rfl) (by kernel_rfl) (by kernel_rfl)
 have h32 := @run_callFunc_extern Tryz.prog 310 _ cmpF Tryz.func310 (by kernel_rfl) (by kernel_rfl) (by kernel_rfl) (by kernel_rfl)
 have tT := Tryz.isTypeOf
 have cT := Tryz.isComparable
 have mR := Tryz.isMethodComparable
 have nE := Tryz.noIsE
 have uE := Tryz.noUnwrapE
 have vE := Tryz.noUnwrapsE
 have nW := Tryz.noIsW
 have uW := Tryz.hasUnwrapW
 have mU := Tryz.methodUnwrap
 have heq := run_eql_iface_ptr_other (P := Tryz.prog) w Tryz.underlying38 Tryz.underlying306 hi hcmp hj (by rw [hjs]; decide) hne ha hb
 have hty1 := run_eql_iface_types (P := Tryz.prog) 179 306 (.pointer (some ⟨p1,o1,none⟩)) (.pointer (some b)) Tryz.underlying38 (by decide) w
 have hty2 := run_eql_iface_types (P := Tryz.prog) 179 306 (.pointer (some ⟨p2,o2,none⟩)) (.pointer (some b)) Tryz.underlying38 (by decide) w
 have hty3 := run_eql_iface_types (P := Tryz.prog) 179 306 (.pointer (some ⟨p3,o3,none⟩)) (.pointer (some b)) Tryz.underlying38 (by decide) w
 have hty4 := run_eql_iface_types (P := Tryz.prog) 179 306 (.pointer (some ⟨p4,o4,none⟩)) (.pointer (some b)) Tryz.underlying38 (by decide) w
 go_enter Tryz.func95,Tryz.ntmps95
 go_wp2
 refine wp_loop_rounds 5 ?_
 rw [rounds_succ]
 go_wp2
 rw [rounds_succ]
 go_wp2
 rw [rounds_succ]
 go_wp2
 rw [rounds_succ]
 go_wp2
 rw [rounds_succ]
 go_wp2
 go_ret
 exact ⟨rfl,rfl⟩

end Go.Proofs.YtkhcbbpfchgemaaGreatDoor.Err
