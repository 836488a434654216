/-
  An abstract machine over the model's code, with one soundness theorem (AbsM.call_ok): part AMa.
-/
import Derived.Orders
import Derived.Below
import Derived.Scope
import Derived.RowKit3
import Derived.Laws.IdiomCopy
/-
 The abstract machine: a deterministic reading of the model's code over a heap of blocks that have names of their own. Nothing of any one program stands here.
-/
namespace AbsYtkhcbbpfchgemaaDoor
set_option linter.unusedVariables false
set_option linter.unusedSimpArgs false
set_option linter.unusedSectionVars false
open Go

inductive Tr (α : Type) where
 | lf
 | nd (o : Option α) (l r : Tr α)

namespace Tr
variable {α : Type}
def getF : Nat → Tr α → Nat → Option α
 | 0,_,_ => none
 | _ + 1,lf,_ => none
 | k + 1,nd o l r,n => cond (Nat.beq n 0) o (cond (Nat.beq (n % 2) 1) (getF k l (n / 2)) (getF k r (n / 2 - 1)))
def setF : Nat → Tr α → Nat → α → Tr α
 | 0,t,_,_ => t
 | k + 1,lf,n,a => cond (Nat.beq n 0) (nd (some a) lf lf) (cond (Nat.beq (n % 2) 1) (nd none (setF k lf (n / 2) a) lf) (nd none lf (setF k lf (n / 2 - 1) a)))
 | k + 1,nd o l r,n,a => cond (Nat.beq n 0) (nd (some a) l r) (cond (Nat.beq (n % 2) 1) (nd o (setF k l (n / 2) a) r) (nd o l (setF k r (n / 2 - 1) a)))
def get (t : Tr α) (n : Nat) : Option α := getF (n + 1) t n
def set (t : Tr α) (n : Nat) (a : α) : Tr α := setF (n + 1) t n a

theorem getF_lf (k n : Nat) : getF k (lf : Tr α) n = none := by cases k <;> rfl

theorem getF_setF_same (k : Nat) : ∀ (k' n : Nat) (t : Tr α) (a : α),n < k → n < k' → getF k' (setF k t n a) n = some a := by
 induction k with
 | zero => intro k' n t a h; omega
 | succ k ih =>
  intro k' n t a h h'
  obtain ⟨k',rfl⟩ : ∃ m,k' = m + 1 := ⟨k' - 1,by omega⟩
  cases t with
  | lf =>
   simp only [setF]
   cases h0 : Nat.beq n 0 with
   | true => simp [getF,h0]
   | false =>
    have hn : n ≠ 0 := fun e => by subst e; simp at h0
    cases h1 : Nat.beq (n % 2) 1 with
    | true => simp only [cond_true,cond_false,getF,h0,h1]; exact ih _ _ _ _ (by omega) (by omega)
    | false => simp only [cond_false,getF,h0,h1]; exact ih _ _ _ _ (by omega) (by omega)
  | nd o l r =>
   simp only [setF]
   cases h0 : Nat.beq n 0 with
   | true => simp [getF,h0]
   | false =>
    have hn : n ≠ 0 := fun e => by subst e; simp at h0
    cases h1 : Nat.beq (n % 2) 1 with
    | true => simp only [cond_true,cond_false,getF,h0,h1]; exact ih _ _ _ _ (by omega) (by omega)
    | false => simp only [cond_false,getF,h0,h1]; exact ih _ _ _ _ (by omega) (by omega)

theorem getF_setF_ne (k : Nat) : ∀ (k' n m : Nat) (t : Tr α) (a : α),n ≠ m → n < k → m < k' → getF k' (setF k t n a) m = getF k' t m := by
 induction k with
 | zero => intro k' n m t a _ h; omega
 | succ k ih =>
  intro k' n m t a hne h h'
  obtain ⟨k',rfl⟩ : ∃ m,k' = m + 1 := ⟨k' - 1,by omega⟩
  have hb : ∀ x y : Nat,Nat.beq x y = true → x = y := fun x y e => Nat.eq_of_beq_eq_true e
  have hf : ∀ x y : Nat,Nat.beq x y = false → x ≠ y := fun x y e => Nat.ne_of_beq_eq_false e
  cases t with
  | lf =>
   simp only [setF]
   cases h0 : Nat.beq n 0 with
   | true =>
    have := hb _ _ h0
    cases h2 : Nat.beq m 0 with
    | true => have := hb _ _ h2; omega
    | false => simp only [cond_true,getF,h2,cond_false]; cases Nat.beq (m % 2) 1 <;> simp [getF_lf]
   | false =>
    have := hf _ _ h0
    cases h1 : Nat.beq (n % 2) 1 with
    | true =>
     have := hb _ _ h1
     simp only [cond_true,cond_false,getF]
     cases h2 : Nat.beq m 0 with
     | true => simp
     | false =>
      have := hf _ _ h2
      cases h3 : Nat.beq (m % 2) 1 with
      | true => have := hb _ _ h3; simp only [cond_true,cond_false]; rw [ih _ _ _ _ _ (by omega) (by omega) (by omega),getF_lf]
      | false => simp [getF_lf]
    | false =>
     have := hf _ _ h1
     simp only [cond_false,getF]
     cases h2 : Nat.beq m 0 with
     | true => simp
     | false =>
      have := hf _ _ h2
      cases h3 : Nat.beq (m % 2) 1 with
      | true => simp [getF_lf]
      | false => have := hf _ _ h3; simp only [cond_false]; rw [ih _ _ _ _ _ (by omega) (by omega) (by omega),getF_lf]
  | nd o l r =>
   simp only [setF]
   cases h0 : Nat.beq n 0 with
   | true =>
    have := hb _ _ h0
    cases h2 : Nat.beq m 0 with
    | true => have := hb _ _ h2; omega
    | false => simp only [cond_true,getF,h2,cond_false]
   | false =>
    have := hf _ _ h0
    cases h1 : Nat.beq (n % 2) 1 with
    | true =>
     have := hb _ _ h1
     simp only [cond_true,cond_false,getF]
     cases h2 : Nat.beq m 0 with
     | true => simp
     | false =>
      have := hf _ _ h2
      cases h3 : Nat.beq (m % 2) 1 with
      | true => have := hb _ _ h3; simp only [cond_true,cond_false]; rw [ih _ _ _ _ _ (by omega) (by omega) (by omega)]
      | false => simp
    | false =>
     have := hf _ _ h1
     simp only [cond_false,getF]
     cases h2 : Nat.beq m 0 with
     | true => simp
     | false =>
      have := hf _ _ h2
      cases h3 : Nat.beq (m % 2) 1 with
      | true => simp
      | false => have := hf _ _ h3; simp only [cond_false]; rw [ih _ _ _ _ _ (by omega) (by omega) (by omega)]

theorem get_set_same (t : Tr α) (n : Nat) (a : α) : (t.set n a).get n = some a := getF_setF_same _ _ _ _ _ (by omega) (by omega)
theorem get_set_ne (t : Tr α) {n m : Nat} (a : α) (h : n ≠ m) : (t.set n a).get m = t.get m := getF_setF_ne _ _ _ _ _ _ h (by omega) (by omega)
end Tr

inductive AObj where
 | dead
 | cells (cs : List Value) (wr : Bool) (sz : Nat)
 | map (es : List MapEntry) (clock : Nat)
 deriving Inhabited

structure AHeap where
 tr : Tr AObj
 size : Nat

namespace AHeap
def empty : AHeap := ⟨.lf,0⟩
def get (H : AHeap) (b : Nat) : AObj := (H.tr.get b).getD .dead
def set (H : AHeap) (b : Nat) (o : AObj) : AHeap := ⟨H.tr.set b o,H.size⟩
def alloc (H : AHeap) (o : AObj) : AHeap := ⟨H.tr.set H.size o,H.size + 1⟩
theorem get_set_same (H : AHeap) (b : Nat) (o : AObj) : (H.set b o).get b = o := by simp [get,set,Tr.get_set_same]
theorem get_set_ne (H : AHeap) {b c : Nat} (o : AObj) (h : b ≠ c) : (H.set b o).get c = H.get c := by simp [get,set,Tr.get_set_ne _ _ h]
theorem get_alloc_same (H : AHeap) (o : AObj) : (H.alloc o).get H.size = o := by simp [get,alloc,Tr.get_set_same]
theorem get_alloc_ne (H : AHeap) {c : Nat} (o : AObj) (h : H.size ≠ c) : (H.alloc o).get c = H.get c := by simp [get,alloc,Tr.get_set_ne _ _ h]
theorem size_set (H : AHeap) (b : Nat) (o : AObj) : (H.set b o).size = H.size := rfl
theorem size_alloc (H : AHeap) (o : AObj) : (H.alloc o).size = H.size + 1 := rfl
end AHeap

inductive ZV where
 | bool (b : Bool) | int (k : IntKind) (n : Int) | str | ptr | slice | map | func | iface
 deriving DecidableEq
def ZV.val : ZV → Value
 | .bool b => .bool b | .int k n => .int k n | .str => .string ⟨#[]⟩ | .ptr => .pointer none | .slice => .slice none 0 0 | .map => .map none | .func => .nilFunc | .iface => .nilIface
def zvOf : Value → Option ZV
 | .bool b => some (.bool b) | .int k n => some (.int k n) | .string s => if s.size = 0 then some .str else none
 | .pointer none => some .ptr | .slice none 0 0 => some .slice | .map none => some .map | .nilFunc => some .func | .nilIface => some .iface
 | _ => none

inductive TK where
 | bool | int (k : IntKind) | string | ptr (e : Nat) | slice (e : Nat) | arr (n e : Nat) | map (k e : Nat)
 | struct (fs : List (Nat × Nat × Bool))
 | iface (bare : Bool) | func | other
 deriving DecidableEq
structure TI where
 k : TK
 size : Nat
 bytes : Nat
 zero : Option (List ZV)
 eqOk : Bool
 deriving DecidableEq
def tkOf : TypeDesc → TK
 | .bool => .bool | .int k => .int k | .string => .string | .pointer e => .ptr e | .slice e => .slice e | .array n e => .arr n e | .map k e => .map k e
 | .struct fs => .struct (fs.toList.map fun f => (f.offset, f.type, f.name == "_"))
 | .interface ms => .iface ms.isEmpty | .func .. => .func | _ => .other
def aggD : TypeDesc → Bool
 | .struct _ | .array _ _ => true
 | _ => false
def aggV : Value → Bool
 | .agg _ => true
 | _ => false
def mkTI (P : Program) (t : Nat) : Option TI :=
 match P.info? t,P.underlying t with
 | some i,some d => some ⟨tkOf d,i.size,i.bytes,i.zero.bind (fun z => if aggV z = aggD d then z.cells.toList.mapM zvOf else none),!P.stoodInHeld t && !P.eqGuardType P.depth t⟩
 | _,_ => none
def TK.isInt : TK → Bool
 | .int _ => true
 | _ => false
def TI.isAgg (i : TI) : Bool := match i.k with | .struct _ | .arr .. => true | _ => false

abbrev Spec := List Value → AHeap → Option (Value × AHeap)
structure Env where
 P : Program
 ty : Tr TI
 fn : Tr Func
 sp : Nat → Option Spec
 ng : Nat
 nb : Nat := 0
 dp : Nat → Bool := fun _ => false
 kp : Nat → Bool := fun _ => true

abbrev dptr (cs : List Value) : Value := .func (.yield 0) ⟨cs⟩ ⟨[]⟩
abbrev dsl (m sz n : Nat) (xs : List Value) : Value := .func (.yield 1) ⟨xs⟩ ⟨[.slice none m sz,.slice none n 0]⟩
mutual
def frz (ng nb : Nat) : Value → Bool
 | .bool _ | .int _ _ | .string _ | .pointer none | .slice none 0 0 | .map none | .nilFunc | .nilIface | .complex .f64 _ _ => true
 | .pointer (some ⟨b,_,none⟩) => decide (b < ng) || (decide (b < nb) && decide (ng + 2 ≤ nb))
 | .iface _ v => frz ng nb v
 | .agg ⟨xs⟩ => frzL ng nb xs
 | .func (.func _) ⟨[]⟩ ⟨[]⟩ => true
 | .func (.yield 0) ⟨_⟩ ⟨[]⟩ => true
 | .func (.yield 1) ⟨_⟩ ⟨[.slice none m _,.slice none _ 0]⟩ => decide (m ≤ 1)
 | _ => false
def frzL (ng nb : Nat) : List Value → Bool
 | [] => true
 | v :: vs => frz ng nb v && frzL ng nb vs
end
mutual
def bare : Value → Value
 | .func (.yield 1) xs ⟨[.slice none m sz,.slice none n 0]⟩ => .func (.yield 1) xs ⟨[.slice none ((if m ≤ 1 then m else 0)) sz,.slice none n 0]⟩
 | .agg ⟨xs⟩ => .agg ⟨bareL xs⟩
 | .tuple ⟨xs⟩ => .tuple ⟨bareL xs⟩
 | .iface t v => .iface t (bare v)
 | v => v
def bareL : List Value → List Value
 | [] => []
 | v :: vs => bare v :: bareL vs
end

def vcells : Value → List Value
 | .agg cs => cs.toList
 | v => [v]
def oneCell : Value → Bool
 | .agg _ | .tuple _ => false
 | _ => true
def aev (A : List Value) : Operand → Value
 | .tmp t => A.getD t undef
 | .const v => v
 | .global g => .pointer (some ⟨g,0,none⟩)
 | .func f => .func (.func f) #[] #[]

def abits (k : IntKind) (r : BitVec k.bits) : Value := .int k (k.wrap r.toNat)
def aint (op : BinOp) (k : IntKind) (a b : Int) : Option Value :=
 match op with
 | .add => some (.int k (k.wrap (a + b)))
 | .sub => some (.int k (k.wrap (a - b)))
 | .mul => some (.int k (k.wrap (a * b)))
 | .quo => if b = 0 then none else some (.int k (k.wrap (a.tdiv b)))
 | .rem => if b = 0 then none else some (.int k (a.tmod b))
 | .and => some (abits k (BitVec.ofInt k.bits a &&& BitVec.ofInt k.bits b))
 | .or => some (abits k (BitVec.ofInt k.bits a ||| BitVec.ofInt k.bits b))
 | .xor => some (abits k (BitVec.ofInt k.bits a ^^^ BitVec.ofInt k.bits b))
 | .andNot => some (abits k (BitVec.ofInt k.bits a &&& ~~~ BitVec.ofInt k.bits b))
 | .eql => some (.bool (a == b))
 | .neq => some (.bool (a != b))
 | .lss => some (.bool (a < b))
 | .leq => some (.bool (a ≤ b))
 | .gtr => some (.bool (a > b))
 | .geq => some (.bool (a ≥ b))
 | _ => none
def ashift (left : Bool) (k : IntKind) (a b : Int) : Option Value :=
 if b < 0 then none else
 if left then some (.int k (k.wrap (a * 2 ^ (min b.toNat k.bits)))) else some (.int k (a.fdiv (2 ^ (min b.toNat k.bits))))
def astr (op : BinOp) (a b : ByteArray) : Option Value :=
 match op with
 | .add => if a.size + b.size ≤ 9223372036854775807 then some (.string (a ++ b)) else none
 | .eql => some (.bool (a.toList == b.toList))
 | .neq => some (.bool (!(a.toList == b.toList)))
 | .lss => some (.bool (Op.bytesLess a.toList b.toList))
 | .leq => some (.bool (Op.bytesLess a.toList b.toList || a.toList == b.toList))
 | .gtr => some (.bool (!(Op.bytesLess a.toList b.toList || a.toList == b.toList)))
 | .geq => some (.bool (!(Op.bytesLess a.toList b.toList)))
 | _ => none

def apart (E : Env) (t : Nat) (cs : List Value) (off : Nat) : Option Value :=
 match E.ty.get t with
 | none => none
 | some i => if i.isAgg then (if off + i.size ≤ cs.length then some (.agg ((cs.drop off).take i.size).toArray) else none) else cs[off]?

mutual
def aeq (E : Env) (H : AHeap) : Nat → Nat → Value → Value → Option Bool
 | 0,_,_,_ => none
 | d + 1,t,x,y =>
  match E.ty.get t with
  | none => none
  | some i =>
   match i.k,x,y with
   | .bool,.bool a,.bool b => some (a == b)
   | .int _,.int k a,.int k' b => if k = k' then some (a == b) else none
   | .string,.string a,.string b => some (a == b)
   | .ptr _,.pointer none,.pointer b => some b.isNone
   | .ptr _,.pointer (some _),.pointer none => some false
   | .ptr e,.pointer (some ⟨a,o,none⟩),.pointer (some ⟨b,p,none⟩) =>
    match E.ty.get e with
    | none => none
    | some j =>
     if j.size = 0 then none else
     if a = b then some (o == p) else
     match H.get a,H.get b with
     | .cells _ true 0,.cells _ true 0 => some false
     | _,_ => none
   | .iface _,.nilIface,.nilIface => some true
   | .iface _,.nilIface,.iface _ _ => some false
   | .iface _,.iface _ _,.nilIface => some false
   | .struct fs,.agg xs,.agg ys => if i.eqOk then aeqs E .empty d fs xs.toList ys.toList else none
   | .slice _,.slice none _ _,.slice b _ _ => some b.isNone
   | .slice _,.slice (some _) _ _,.slice none _ _ => some false
   | .map _ _,.map none,.map b => some b.isNone
   | .map _ _,.map (some _),.map none => some false
   | .func,.nilFunc,.nilFunc => some true
   | .func,.nilFunc,.func (.func _) _ _ => some false
   | .func,.func (.func _) _ _,.nilFunc => some false
   | .ptr _,.func (.yield 0) _ _,.pointer none => some false
   | .ptr _,.pointer none,.func (.yield 0) _ _ => some false
   | .slice _,.func (.yield 1) _ _,.slice none _ _ => some false
   | .slice _,.slice none _ _,.func (.yield 1) _ _ => some false
   | _,_,_ => none
def aeqs (E : Env) (H : AHeap) : Nat → List (Nat × Nat × Bool) → List Value → List Value → Option Bool
 | _,[],_,_ => some true
 | 0,_,_,_ => none
 | d + 1,(off,t,blank) :: fs,xs,ys =>
  if blank then aeqs E H d fs xs ys else
  match apart E t xs off,apart E t ys off with
  | some x,some y =>
   match aeq E H d t x y with
   | some true => aeqs E H d fs xs ys
   | some false => some false
   | none => none
  | _,_ => none
end

def isConst : Operand → Bool
 | .const _ => true
 | _ => false

def nonNum : Value → Bool
 | .int .. | .float .. | .complex .. | .string _ => false
 | _ => true
def eqAsk (E : Env) (t : Nat) (cs : Bool) (x y : Value) : Bool :=
 match x,y with
 | .nilIface,.nilIface => cs
 | .agg _,.agg _ => match E.ty.get t with
  | some i => i.eqOk
  | none => false
 | _,_ => true
def abin (E : Env) (H : AHeap) (op : BinOp) (t : Nat) (cs : Bool) (x y : Value) : Option Value :=
 match x,y with
 | .int k a,.int k' b =>
  match op with
  | .shl => ashift true k a b
  | .shr => ashift false k a b
  | _ => if k = k' then aint op k a b else none
 | .string a,.string b => astr op a b
 | x,y =>
  if nonNum x && nonNum y && eqAsk E t cs x y then
   match op with
   | .eql => (aeq E H 64 t x y).map .bool
   | .neq => (aeq E H 64 t x y).map fun b => .bool (!b)
   | _ => none
  else none

def aun (op : UnOp) (x : Value) : Option Value :=
 match op,x with
 | .neg,.int k n => some (.int k (k.wrap (0 - n)))
 | .xor,.int k n => some (abits k (BitVec.ofInt k.bits (if k.signed then -1 else k.max) ^^^ BitVec.ofInt k.bits n))
 | .not,.bool b => some (.bool !b)
 | _,_ => none

def aload (E : Env) (H : AHeap) (t : Nat) (x : Value) : Option Value :=
 match x with
 | .pointer (some ⟨b,o,none⟩) =>
  match H.get b,E.ty.get t with
  | .cells cs _ _,some i =>
   if i.isAgg then (if o + i.size ≤ cs.length then some (.agg ((cs.drop o).take i.size).toArray) else none) else cs[o]?
  | _,_ => none
 | .func (.yield 0) ⟨cs⟩ ⟨[]⟩ =>
  match E.ty.get t with
  | some i => if i.isAgg then (if i.size ≤ cs.length then some (.agg (cs.take i.size).toArray) else none) else cs[0]?
  | none => none
 | _ => none

def splice (cs : List Value) (o : Nat) (xs : List Value) : List Value := cs.take o ++ xs ++ cs.drop (o + xs.length)

def astoreAt (H : AHeap) (b o : Nat) (xs : List Value) : Option AHeap :=
 match H.get b with
 | .cells cs true sz => if xs.all oneCell && decide (o + xs.length ≤ cs.length) then some (H.set b (.cells (splice cs o xs) true sz)) else none
 | _ => none

def astore (E : Env) (H : AHeap) (t : Nat) (x v : Value) : Option AHeap :=
 match x,E.ty.get t with
 | .pointer (some ⟨b,o,none⟩),some i => if (vcells v).length = i.size then astoreAt H b o (vcells v) else none
 | _,_ => none

def azero (E : Env) (t : Nat) : Option (List Value) := (E.ty.get t).bind fun i => i.zero.map (·.map ZV.val)

def azeroV (E : Env) (t : Nat) : Option Value :=
 match E.ty.get t with
 | none => none
 | some i => match i.zero with
  | none => none
  | some zs => if i.isAgg then some (.agg (zs.map ZV.val).toArray) else match zs with
   | [z] => some z.val
   | _ => none

def lfill (place : Nat → Option (Nat × Nat)) (cs : List Value) : List (Nat × Value) → Option (List Value)
 | [] => some cs
 | (i,v) :: rest =>
  match place i with
  | none => none
  | some (off,size) => if (vcells v).length = size && decide (off + size ≤ cs.length) then lfill place (splice cs off (vcells v)) rest else none

def fieldPlaces (E : Env) : List (Nat × Nat × Bool) → Option (List (Nat × Nat))
 | [] => some []
 | (off,t,_) :: fs => match E.ty.get t,fieldPlaces E fs with
  | some i,some r => some ((off,i.size) :: r)
  | _,_ => none

def abuild (E : Env) (t : Nat) (parts : List (Nat × Value)) : Option Value :=
 match E.ty.get t,azero E t with
 | some i,some z =>
  match i.k with
  | .struct fs => match fieldPlaces E fs with
   | some pl => (lfill (fun k => pl[k]?) z parts).map fun cs => .agg cs.toArray
   | none => none
  | .arr _ e => match E.ty.get e with
   | some j => (lfill (fun k => some (k * j.size,j.size)) z parts).map fun cs => .agg cs.toArray
   | none => none
  | _ => none
 | _,_ => none

def reps (z : List Value) : Nat → List Value
 | 0 => []
 | n + 1 => z ++ reps z n

def abuildSlice (E : Env) (H : AHeap) (t len : Nat) (parts : List (Nat × Value)) : Option (Value × AHeap) :=
 match E.ty.get t with
 | some ⟨.slice e,_,_,_,_⟩ =>
  match E.ty.get e,azero E e with
  | some j,some z =>
   if j.size = 0 || z.length != j.size || decide (len * j.size > 16777216) then none else
   (lfill (fun k => some (k * j.size,j.size)) (reps z len) parts).map fun cs =>
    if E.dp t && frzL E.ng E.nb cs then (dsl 1 j.size len cs,H) else (.slice (some ⟨H.size,0,some 1⟩) len len,H.alloc (.cells cs true j.size))
  | _,_ => none
 | _ => none

def afieldAddr (E : Env) (s : Nat) (x : Value) (f : Nat) : Option Value :=
 match E.ty.get s,x with
 | some ⟨.struct fs,_,_,_,_⟩,.pointer (some ⟨b,o,none⟩) =>
  match fs[f]? with
  | some (off,t,_) => match E.ty.get t with
   | some j => if j.size = 0 then none else some (.pointer (some ⟨b,o + off,none⟩))
   | none => none
  | none => none
 | some ⟨.struct fs,_,_,_,_⟩,.func (.yield 0) ⟨cs⟩ ⟨[]⟩ =>
  match fs[f]? with
  | some (off,t,_) => match E.ty.get t with
   | some j => if j.size = 0 then none else some (dptr (cs.drop off))
   | none => none
  | none => none
 | _,_ => none

def afield (E : Env) (s : Nat) (x : Value) (f : Nat) : Option Value :=
 match E.ty.get s,x with
 | some ⟨.struct fs,_,_,_,_⟩,.agg cs => match fs[f]? with
  | some (off,t,_) => apart E t cs.toList off
  | none => none
 | _,_ => none

def aindexAddr (E : Env) (t : Nat) (x ix : Value) : Option Value :=
 match E.ty.get t,ix with
 | some i,.int _ n =>
  match i.k,x with
  | .slice e,.slice (some ⟨b,o,_⟩) len _ => match E.ty.get e with
   | some j => if 0 ≤ n ∧ n < len then some (.pointer (some ⟨b,o + n.toNat * j.size,none⟩)) else none
   | none => none
  | .arr len e,.pointer (some ⟨b,o,none⟩) => match E.ty.get e with
   | some j => if 0 ≤ n ∧ n < len then some (.pointer (some ⟨b,o + n.toNat * j.size,none⟩)) else none
   | none => none
  | .slice e,.func (.yield 1) ⟨xs⟩ ⟨[.slice none _ sz,.slice none len 0]⟩ => match E.ty.get e with
   | some j => if j.size = sz ∧ 0 ≤ n ∧ n < len then some (dptr (xs.drop (n.toNat * sz))) else none
   | none => none
  | .arr len e,.func (.yield 0) ⟨cs⟩ ⟨[]⟩ => match E.ty.get e with
   | some j => if 0 ≤ n ∧ n < len then some (dptr (cs.drop (n.toNat * j.size))) else none
   | none => none
  | _,_ => none
 | _,_ => none

def aindex (E : Env) (t : Nat) (x ix : Value) : Option Value :=
 match E.ty.get t,ix with
 | some i,.int _ n =>
  match i.k,x with
  | .string,.string s => if 0 ≤ n then (s[n.toNat]?).map fun b => .int .u8 b.toNat else none
  | .arr len e,.agg cs => match E.ty.get e with
   | some j => if 0 ≤ n ∧ n < len then apart E e cs.toList (n.toNat * j.size) else none
   | none => none
  | _,_ => none
 | _,_ => none

def abound (v : Option Value) (other most : Nat) : Option Nat :=
 match v with
 | none => some other
 | some (.int _ n) => if 0 ≤ n ∧ n ≤ most then some n.toNat else none
 | some _ => none

def szOk (H : AHeap) (b n : Nat) : Bool :=
 match H.get b with
 | .cells _ _ sz => Nat.beq sz 0 || Nat.beq sz n
 | _ => false
def aslice (E : Env) (H : AHeap) (t : Nat) (x : Value) (lo hi mx : Option Value) : Option Value :=
 match E.ty.get t with
 | none => none
 | some i =>
  match i.k,x with
  | .string,.string s =>
   if mx.isSome then none else
   match abound hi s.size s.size with
   | some h => match abound lo 0 h with
    | some l => some (.string (s.extract l h))
    | none => none
   | none => none
  | .slice e,.slice (some ⟨b,o,ex⟩) len c =>
   match E.ty.get e with
   | none => none
   | some j =>
    if (mx.isSome && hi.isNone) || !szOk H b j.size then none else
    match abound mx c c with
    | none => none
    | some m => match abound hi len m with
     | none => none
     | some h => match abound lo 0 h with
      | none => none
      | some l => some (.slice (some ⟨b,o + l * j.size,if mx.isSome then some 1 else ex⟩) (h - l) (m - l))
  | .slice e,.slice none 0 0 =>
   match E.ty.get e with
   | none => none
   | some _ =>
    if mx.isSome && hi.isNone then none else
    match abound mx 0 0 with
    | none => none
    | some m => match abound hi 0 m with
     | none => none
     | some h => match abound lo 0 h with
      | none => none
      | some _ => some (.slice none 0 0)
  | .arr n e,.pointer (some ⟨b,o,none⟩) =>
   match E.ty.get e with
   | none => none
   | some j =>
    if mx.isSome || !szOk H b 0 then none else
    match abound hi n n with
    | none => none
    | some h => match abound lo 0 h with
     | none => none
     | some l => some (.slice (some ⟨b,o + l * j.size,some 1⟩) (h - l) (n - l))
  | .slice e,.func (.yield 1) ⟨xs⟩ ⟨[.slice none md sz,.slice none len 0]⟩ =>
   match E.ty.get e with
   | none => none
   | some j =>
    if (mx.isSome && hi.isNone) || !Nat.beq j.size sz then none else
    match abound mx len len with
    | none => none
    | some m => match abound hi len m with
     | none => none
     | some h => match abound lo 0 h with
      | none => none
      | some l => some (dsl (if mx.isSome then (if h = m then 1 else 0) else if md = 1 then (if h = len then 1 else 0) else if h = len ∧ l < h then md else 0) sz (h - l) ((xs.drop (l * sz)).take ((h - l) * sz)))
  | _,_ => none

def amakeSlice (E : Env) (H : AHeap) (t : Nat) (len cap : Value) : Option (Value × AHeap) :=
 match E.ty.get t,len,cap with
 | some ⟨.slice e,_,_,_,_⟩,.int _ l,.int _ c =>
  match E.ty.get e,azero E e with
  | some j,some z =>
   if 0 ≤ l ∧ l ≤ c ∧ c ≤ 9223372036854775807 ∧ j.bytes * c ≤ 281474976710656 ∧ j.size ≠ 0 ∧ z.length = j.size then
    some (.slice (some ⟨H.size,0,some 1⟩) l.toNat c.toNat,H.alloc (.cells (reps z c.toNat) true j.size))
   else none
  | _,_ => none
 | _,_,_ => none

def keyKind (E : Env) (kt : Nat) (k : Value) : Option TypeDesc :=
 match E.ty.get kt,k with
 | some ⟨.int q,_,_,_,_⟩,.int _ _ => some (.int q)
 | some ⟨.string,_,_,_,_⟩,.string _ => some .string
 | _,_ => none

def luRes (ok : Bool) (v : Value) (is : Bool) : Value := if ok then .tuple #[v,.bool is] else v
def alookup (E : Env) (H : AHeap) (t : Nat) (m k : Value) (ok : Bool) : Option Value :=
 match E.ty.get t with
 | some ⟨.map kt et,_,_,_,_⟩ =>
  match keyKind E kt k,azeroV E et with
  | some d,some zv =>
   match m with
   | .map none => some (luRes ok zv false)
   | .map (some r) => match H.get r with
    | .map es _ => match Instr.findNow d k es 0 with
     | some (some (_,v)) => some (luRes ok v true)
     | some none => some (luRes ok zv false)
     | none => none
    | _ => none
   | _ => none
  | _,_ => none
 | _ => none

def amapUpdate (E : Env) (H : AHeap) (t : Nat) (m k v : Value) : Option AHeap :=
 match E.ty.get t,m with
 | some ⟨.map kt _,_,_,_,_⟩,.map (some r) =>
  match keyKind E kt k,H.get r with
  | some d,.map es clock => match Instr.findNow d k es 0 with
   | some (some (i,_)) => some (H.set r (.map (es.modify i fun e => { e with key := k,val := v }) clock))
   | some none => some (H.set r (.map (es ++ [{ key := k,val := v,born := clock }]) (clock + 1)))
   | none => none
  | _,_ => none
 | _,_ => none

def adelete (E : Env) (H : AHeap) (t : Nat) (m k : Value) : Option AHeap :=
 match E.ty.get t with
 | some ⟨.map kt _,_,_,_,_⟩ =>
  match keyKind E kt k,m with
  | some _,.map none => some H
  | some d,.map (some r) => match H.get r with
   | .map es clock => match Instr.findNow d k es 0 with
    | some (some (i,_)) => some (H.set r (.map (es.eraseIdx i) clock))
    | some none => some H
    | none => none
   | _ => none
  | _,_ => none
 | _ => none

def takeCells (H : AHeap) (b o n : Nat) : Option (List Value) :=
 match H.get b with
 | .cells cs _ _ => if o + n ≤ cs.length then some ((cs.drop o).take n) else none
 | _ => none

def srcCells (H : AHeap) (size : Nat) : Value → Option (Nat × List Value)
 | .slice none 0 0 => some (0,[])
 | .slice (some ⟨b,o,_⟩) n _ => (takeCells H b o (n * size)).map fun l => (n,l)
 | .string s => if size = 1 then some (s.size,s.data.toList.map fun b => .int .u8 b.toNat) else none
 | .func (.yield 1) ⟨xs⟩ ⟨[.slice none _ sz,.slice none n 0]⟩ => if sz = size then some (n,xs) else none
 | _ => none

def deepNew (H : AHeap) (sz n : Nat) (xs : List Value) : Value × AHeap := (dsl (H.size + 2) sz n xs,H.alloc (.cells [] true sz))

def aappend (E : Env) (H : AHeap) (ts : List Nat) (args : List Value) : Option (Value × AHeap) :=
 match ts,args with
 | [t,u],[s,x] =>
  match E.ty.get t,E.ty.get u with
  | some ⟨.slice e,_,_,_,_⟩,some iu =>
   match E.ty.get e,azero E e with
   | some j,some z =>
    if j.size = 0 || j.bytes = 0 || z.length != j.size || iu.k.isInt then none else
    match srcCells H j.size x with
    | none => none
    | some (k,new) =>
     match s with
     | .slice none 0 0 =>
      if k = 0 then some (.slice none 0 0,H)
      else if decide (k * j.bytes ≤ 140737488355328) && new.all oneCell then
       (if E.dp t then (if frzL E.ng E.nb (bareL new) then some (deepNew H j.size k (bareL new)) else none) else some (.slice (some ⟨H.size,0,none⟩) k k,H.alloc (.cells new true j.size))) else none
     | .slice (some ⟨b,o,ex⟩) n c =>
      if n + k ≤ c then
       match H.get b with
       | .cells _ _ sz => if sz = j.size then (if k = 0 then some (s,H) else (astoreAt H b (o + n * j.size) new).map fun H' => (.slice (some ⟨b,o,ex⟩) (n + k) c,H')) else none
       | _ => none
      else if decide ((n + k) * j.bytes ≤ 140737488355328) && new.all oneCell then
       match ex with
       | some 1 => (takeCells H b o (n * j.size)).map fun old => (.slice (some ⟨H.size,0,none⟩) (n + k) (n + k),H.alloc (.cells (old ++ new) true j.size))
       | none =>
        match H.get b with
        | .cells cs true sz =>
         if sz = j.size ∧ o + n * j.size = cs.length then
          some (.slice (some ⟨H.size,0,none⟩) (n + k) (n + k),(H.set b .dead).alloc (.cells (cs.drop o ++ new) true j.size))
         else none
        | _ => none
       | _ => none
      else none
     | .func (.yield 1) ⟨xs⟩ ⟨[.slice none md sz,.slice none n 0]⟩ =>
      if sz = j.size then
       if k = 0 then some (s,H)
       else if decide ((n + k) * j.bytes ≤ 140737488355328) && new.all oneCell && frzL E.ng E.nb (bareL new) then
        match md with
        | 0 => none
        | 1 => some (deepNew H sz (n + k) (xs ++ bareL new))
        | tk + 2 => match H.get tk with
         | .cells [] true sz' => if sz' = sz then some (deepNew (H.set tk .dead) sz (n + k) (xs ++ bareL new)) else none
         | _ => none
       else none
      else none
     | _ => none
   | _,_ => none
  | _,_ => none
 | _,_ => none

def aminmaxF (mn : Bool) (k : IntKind) : Int → List Value → Option Value
 | x,[] => some (.int k x)
 | x,.int k' y :: rest => if k = k' then aminmaxF mn k (if mn then (if y < x then y else x) else (if y > x then y else x)) rest else none
 | _,_ => none
def aminmax (mn : Bool) : List Value → Option Value
 | .int k x :: rest => aminmaxF mn k x rest
 | _ => none

def abuiltin (E : Env) (H : AHeap) (b : Builtin) (ts : List Nat) (args : List Value) : Option (Value × AHeap) :=
 match b,args with
 | .len,[.string s] => match ts with
  | t :: _ => match E.ty.get t with
   | some ⟨.string,_,_,_,_⟩ => some (goInt s.size,H)
   | _ => none
  | [] => none
 | .len,[.slice _ n _] => match ts with
  | t :: _ => match E.ty.get t with
   | some ⟨.slice _,_,_,_,_⟩ => some (goInt n,H)
   | _ => none
  | [] => none
 | .len,[.func (.yield 1) ⟨_⟩ ⟨[.slice none _ _,.slice none n 0]⟩] => match ts with
  | t :: _ => match E.ty.get t with
   | some ⟨.slice _,_,_,_,_⟩ => some (goInt n,H)
   | _ => none
  | [] => none
 | .len,[.map none] => match ts with
  | t :: _ => match E.ty.get t with
   | some ⟨.map ..,_,_,_,_⟩ => some (goInt 0,H)
   | _ => none
  | [] => none
 | .len,[.map (some r)] => match ts with
  | t :: _ => match E.ty.get t,H.get r with
   | some ⟨.map ..,_,_,_,_⟩,.map es _ => some (goInt es.length,H)
   | _,_ => none
  | [] => none
 | .append,args => aappend E H ts args
 | .min,args => (aminmax true args).map fun v => (v,H)
 | .max,args => (aminmax false args).map fun v => (v,H)
 | .delete,[m,k] => match ts with
  | t :: _ => (adelete E H t m k).map fun H' => (.tuple #[],H')
  | [] => none
 | .clear,[.slice (some ⟨b,o,_⟩) n _] => match ts with
  | t :: _ => match E.ty.get t with
   | some ⟨.slice e,_,_,_,_⟩ => match E.ty.get e,azero E e with
    | some j,some z => if j.size = 0 || z.length != j.size || n = 0 then (if n = 0 then some (.tuple #[],H) else none) else (astoreAt H b o (reps z n)).map fun H' => (.tuple #[],H')
    | _,_ => none
   | _ => none
  | [] => none
 | _,_ => none

def byteOfV : Value → Option UInt8
 | .int .u8 n => some (UInt8.ofNat n.toNat)
 | _ => none
def aconvert (E : Env) (H : AHeap) (src dst : Nat) (x : Value) : Option (Value × AHeap) :=
 match E.ty.get src,E.ty.get dst with
 | some i,some j =>
  match i.k,j.k,x with
  | _,.int k,.int _ n => some (.int k (k.wrap n),H)
  | .string,.string,.string s => some (.string s,H)
  | .string,.slice e,.string s => match E.ty.get e with
   | some ⟨.int .u8,_,_,_,_⟩ => some (if E.dp dst then (dsl 0 1 s.size (s.data.toList.map fun b => .int .u8 b.toNat),H) else (.slice (some ⟨H.size,0,none⟩) s.size s.size,H.alloc (.cells (s.data.toList.map fun b => .int .u8 b.toNat) true 1)))
   | _ => none
  | .slice e,.string,.slice none _ _ => match E.ty.get e with
   | some ⟨.int .u8,_,_,_,_⟩ => some (.string .empty,H)
   | _ => none
  | .slice e,.string,.slice (some ⟨b,o,_⟩) n _ => match E.ty.get e with
   | some ⟨.int .u8,_,_,_,_⟩ => match takeCells H b o n with
    | some l => (l.mapM byteOfV).map fun bs => (.string ⟨bs.toArray⟩,H)
    | none => none
   | _ => none
  | .slice e,.string,.func (.yield 1) ⟨xs⟩ ⟨[.slice none _ sz,.slice none _ 0]⟩ => match E.ty.get e with
   | some ⟨.int .u8,_,_,_,_⟩ => if sz = 1 then (xs.mapM byteOfV).map fun bs => (.string ⟨bs.toArray⟩,H) else none
   | _ => none
  | _,_,_ => none
 | _,_ => none

inductive ARes where
 | val (v : Value) (H : AHeap)
 | call (f : Nat) (args : List Value)

def pairs (A : List Value) (ps : Array (Nat × Operand)) : List (Nat × Value) := ps.toList.map fun p => (p.1,aev A p.2)
def vres (H : AHeap) (o : Option Value) : Option ARes := o.map fun v => .val v H
def hres (o : Option (Value × AHeap)) : Option ARes := o.map fun p => .val p.1 p.2
def ures (o : Option AHeap) : Option ARes := o.map fun H => .val undef H

def aop (E : Env) (A : List Value) (H : AHeap) (op : Op) : Option ARes :=
 match op with
 | .move x | .assign x => some (.val (aev A x) H)
 | .pick c a b => match aev A c with
  | .bool t => some (.val (if t then aev A a else aev A b) H)
  | _ => none
 | .alloc t => match azero E t with
  | some z => some (.val (.pointer (some ⟨H.size,0,none⟩)) (H.alloc (.cells z true 0)))
  | none => none
 | .box t x => some (if E.dp t && frzL E.ng E.nb (vcells (aev A x)) then .val (dptr (vcells (aev A x))) H else if E.dp t && frzL E.ng E.nb (bareL (vcells (aev A x))) then .val (dptr (bareL (vcells (aev A x)))) H else .val (.pointer (some ⟨H.size,0,none⟩)) (H.alloc (.cells (vcells (aev A x)) true 0)))
 | .build t ps => vres H (abuild E t (pairs A ps))
 | .buildSlice t n ps => hres (abuildSlice E H t n (pairs A ps))
 | .load t x => vres H (aload E H t (aev A x))
 | .store t x y => ures (astore E H t (aev A x) (aev A y))
 | .nilCheck x => match aev A x with
  | .pointer (some a) => some (.val (.pointer (some a)) H)
  | .func (.func f) fs cs => some (.val (.func (.func f) fs cs) H)
  | .func (.yield 0) ⟨cs⟩ ⟨[]⟩ => some (.val (dptr cs) H)
  | _ => none
 | .binOp op t x y _ => vres H (abin E H op t (isConst x || isConst y) (aev A x) (aev A y))
 | .unOp op _ x => vres H (aun op (aev A x))
 | .convert s d x => hres (aconvert E H s d (aev A x))
 | .makeInterface t x => match E.ty.get t with
  | some i => match i.k with
   | .iface _ => none
   | _ => some (.val (.iface t (aev A x)) H)
  | none => none
 | .makeFunc (.func f) fs cs => some (.val (.func (.func f) (fs.map (aev A)) (cs.map (aev A))) H)
 | .makeMap _ none => some (.val (.map (some H.size)) (H.alloc (.map [] 0)))
 | .makeSlice t l c => hres (amakeSlice E H t (aev A l) (aev A c))
 | .slice t x lo hi mx => vres H (aslice E H t (aev A x) (lo.map (aev A)) (hi.map (aev A)) (mx.map (aev A)))
 | .fieldAddr s x f => vres H (afieldAddr E s (aev A x) f)
 | .field s x f => vres H (afield E s (aev A x) f)
 | .indexAddr t x i => vres H (aindexAddr E t (aev A x) (aev A i))
 | .index t x i => vres H (aindex E t (aev A x) (aev A i))
 | .lookup t m k ok => vres H (alookup E H t (aev A m) (aev A k) ok)
 | .mapUpdate t m k v => ures (amapUpdate E H t (aev A m) (aev A k) (aev A v))
 | .extract x i => match aev A x with
  | .tuple vs => vres H vs[i]?
  | _ => none
 | .call c => match c.callee with
  | .builtin b => hres (abuiltin E H b c.argTypes.toList (c.args.toList.map (aev A)))
  | .value f => match aev A f with
   | .func (.func g) fs cs => some (.call g (fs.toList ++ c.args.toList.map (aev A) ++ cs.toList))
   | _ => none
  | .invoke _ _ => none
 | _ => none

def aput (A : List Value) (dst : Option Tmp) (v : Value) : List Value :=
 match dst with
 | some d => A.set d v
 | none => A
def ayield (all : Array Oper) (A : List Value) (j : Nat) : Option Bool :=
 match ((all[j]?).bind (·.dst)).bind (A[·]?) with
 | some (.bool b) => some b
 | _ => none

abbrev Call := Nat → List Value → AHeap → Option (Value × AHeap)

def runOp (E : Env) (call : Call) (all : Array Oper) (o : Oper) (A : List Value) (H : AHeap) : Option (List Value × AHeap) :=
 if Region.wanted o (ayield all A) then
  match aop E A H o.op with
  | none => none
  | some (.val v H') => some (aput A o.dst v,H')
  | some (.call f args) => match call f args H with
   | some (v,H') => some (aput A o.dst v,H')
   | none => none
 else some (aput A o.dst undef,H)

def runOps (E : Env) (call : Call) (all : Array Oper) : List Oper → List Value → AHeap → Option (List Value × AHeap)
 | [],A,H => some (A,H)
 | o :: rest,A,H => match runOp E call all o A H with
  | some (A',H') => runOps E call all rest A' H'
  | none => none

inductive AExit where
 | normal | exit (id : Nat) | ret

def results (E : Env) (A : List Value) (H : AHeap) : List ResultVar → Option (List Value)
 | [] => some []
 | .tmp t :: rest => (results E A H rest).map fun r => A.getD t undef :: r
 | .cell a t :: rest => match aload E H t (A.getD a undef),results E A H rest with
  | some v,some r => some (v :: r)
  | _,_ => none
def oneOf : List Value → Value
 | [v] => v
 | vs => .tuple vs.toArray

abbrev Exec := Code → List Value → AHeap → Option (AExit × List Value × AHeap)
def leave (E : Env) (f : Nat) (v : Value) : Value := if E.kp f then v else bare v
def callF (E : Env) (ex : Exec) : Call := fun f args H =>
 match E.sp f with
 | some g => g args H
 | none => match E.fn.get f with
  | none => none
  | some fn => match fn.body with
   | none => none
   | some c => match ex c (args ++ List.replicate (fn.ntmps - args.length) undef) H with
    | some (.exit _,_,_) => none
    | some (_,A,H') => (results E A H' fn.results.toList).map fun vs => (leave E f (oneOf vs),H')
    | none => none

mutual
def veq : Value → Value → Bool
 | .bool a,.bool b => a == b
 | .int k a,.int l b => decide (k = l) && decide (a = b)
 | .float k a,.float l b => decide (k = l) && Nat.beq a b
 | .complex k a c,.complex l b d => decide (k = l) && Nat.beq a b && Nat.beq c d
 | .string a,.string b => decide (a.data.toList = b.data.toList)
 | .pointer a,.pointer b => decide (a = b)
 | .slice a n c,.slice b m d => decide (a = b) && Nat.beq n m && Nat.beq c d
 | .map a,.map b => decide (a = b)
 | .chan a,.chan b => decide (a = b)
 | .func f xs ys,.func g zs ws => decide (f = g) && veqA xs zs && veqA ys ws
 | .nilFunc,.nilFunc => true
 | .iface t x,.iface u y => Nat.beq t u && veq x y
 | .nilIface,.nilIface => true
 | .agg xs,.agg ys => veqA xs ys
 | .tuple xs,.tuple ys => veqA xs ys
 | _,_ => false
def veqA : Array Value → Array Value → Bool
 | ⟨xs⟩,⟨ys⟩ => veqL xs ys
def veqL : List Value → List Value → Bool
 | [],[] => true
 | x :: xs,y :: ys => veq x y && veqL xs ys
 | _,_ => false
end
def meq (a b : MapEntry) : Bool := veq a.key b.key && veq a.val b.val && Nat.beq a.born b.born
def meqL : List MapEntry → List MapEntry → Bool
 | [],[] => true
 | x :: xs,y :: ys => meq x y && meqL xs ys
 | _,_ => false
def oeq : AObj → AObj → Bool
 | .dead,.dead => true
 | .cells xs w s,.cells ys w' s' => decide (w = w') && Nat.beq s s' && veqL xs ys
 | .map es c,.map fs d => Nat.beq c d && meqL es fs
 | _,_ => false

def isM : Op → Bool
 | .store .. | .mapUpdate .. | .mapEntry .. | .entryStore .. | .insert .. => true
 | .call c => match c.callee with
  | .builtin .len | .builtin .min | .builtin .max => false
  | _ => true
 | _ => false
def isEq : BinOp → Bool
 | .eql | .neq => true
 | _ => false
def mayRead : Op → Bool
 | .load .. | .lookup .. | .convert .. | .slice .. => true
 | .binOp op .. => isEq op
 | .call c => match c.callee with
  | .builtin .len => true
  | _ => false
 | _ => false
def blkOf : Value → List Nat
 | .pointer (some a) => [a.block]
 | .slice (some a) _ _ => [a.block]
 | .map (some r) => [r]
 | _ => []
def reads (A : List Value) : Op → List Nat
 | .load _ x => blkOf (aev A x)
 | .lookup _ m _ _ => blkOf (aev A m)
 | .convert _ _ x => blkOf (aev A x)
 | .slice _ x _ _ _ => blkOf (aev A x)
 | .binOp op _ x y _ => if isEq op then blkOf (aev A x) ++ blkOf (aev A y) else []
 | .call c => match c.callee with
  | .builtin .len => c.args.toList.flatMap fun x => blkOf (aev A x)
  | _ => []
 | _ => []
def looksWeak : Op → Bool
 | .slice .. => true
 | _ => false
def oszeq : AObj → AObj → Bool
 | .dead,.dead => true
 | .cells _ _ s,.cells _ _ s' => Nat.beq s s'
 | .map ..,.map .. => true
 | _,_ => false

def edgeMask (acc : List Nat) : List Edge → Nat → Nat
 | [],s => s
 | e :: es,s => edgeMask acc es (if Region.binds .any e then s ||| 2 ^ e.on ||| acc.getD e.on 0 else s)
def befs : List Oper → List Nat → List Nat
 | [],acc => acc
 | o :: r,acc => befs r (acc ++ [edgeMask acc o.after.toList 0])
def bef (b : List Nat) (i j : Nat) : Bool := (b.getD j 0).testBit i

def floatPairs (ops : Array Oper) : List (Nat × Nat) :=
 let b := befs ops.toList []
 let l := ops.toList.zipIdx
 (l.filter fun p => mayRead p.1.op).flatMap fun p => (l.filter fun q => isM q.1.op && !bef b p.2 q.2 && !bef b q.2 p.2).map fun q => (p.2,q.2)

def runTr (E : Env) (call : Call) (all : Array Oper) : List Oper → List Value → AHeap → Option (List (List Value × AHeap))
 | [],A,H => some [(A,H)]
 | o :: rest,A,H => match runOp E call all o A H with
  | some (A',H') => (runTr E call all rest A' H').map ((A,H) :: ·)
  | none => none

def floatOk (ops : Array Oper) (tr : List (List Value × AHeap)) (p : Nat × Nat) : Bool :=
 match tr[p.1]?,ops[p.1]?,tr[p.2]?,tr[p.2 + 1]? with
 | some (A,_),some o,some (_,H),some (_,H') =>
  !Region.wanted o (ayield ops A) || (reads A o.op).all fun b => if looksWeak o.op then oszeq (H.get b) (H'.get b) else oeq (H.get b) (H'.get b)
 | _,_,_,_ => false

def runDraw (E : Env) (call : Call) (ops : Array Oper) (A : List Value) (H : AHeap) : Option (List Value × AHeap) :=
 match runTr E call ops ops.toList A H with
 | some tr => if (floatPairs ops).all (floatOk ops tr) then tr.getLast? else none
 | none => none

def exec (E : Env) : Nat → Exec
 | 0,_,_,_ => none
 | k + 1,c,A,H =>
  match c with
  | .skip => some (.normal,A,H)
  | .label _ => some (.normal,A,H)
  | .seq a b => match exec E k a A H with
   | some (.normal,A',H') => exec E k b A' H'
   | r => r
  | .cond x a b => match aev A x with
   | .bool true => exec E k a A H
   | .bool false => exec E k b A H
   | _ => none
  | .block id c => match exec E k c A H with
   | some (.exit id',A',H') => if id' = id then some (.normal,A',H') else some (.exit id',A',H')
   | r => r
  | .loop c => match exec E k c A H with
   | some (.normal,A',H') => exec E k (.loop c) A' H'
   | r => r
  | .scope c => exec E k c A H
  | .exit id => some (.exit id,A,H)
  | .ret => some (.ret,A,H)
  | .region _ ops draw =>
   (if draw then runDraw E (callF E (exec E k)) ops A H else runOps E (callF E (exec E k)) ops ops.toList A H).map fun p => (.normal,p.1,p.2)
  | _ => none

end AbsYtkhcbbpfchgemaaDoor

/-
 How the abstract machine's values and heap lie in a world.
-/
namespace AbsYtkhcbbpfchgemaaDoor
set_option linter.unusedVariables false
set_option linter.unusedSimpArgs false
set_option linter.unusedSectionVars false
open Go

structure Loc where
 blk : Nat
 base : Nat
 sz : Nat
 tot : Nat

structure Emb where
 loc : Nat → Option Loc
 imm : Nat → Nat → Value → Prop
instance : CoeFun Emb (fun _ => Nat → Option Loc) := ⟨Emb.loc⟩
def Emb.holds (ι : Emb) (B o : Nat) (cs : List Value) : Prop := ∀ (i : Nat) (v : Value),cs[i]? = some v → ι.imm B (o + i) v

mutual
inductive RV (ι : Emb) : Value → Value → Prop
 | bool (b : Bool) : RV ι (.bool b) (.bool b)
 | int (k : IntKind) (n : Int) : RV ι (.int k n) (.int k n)
 | string (s : ByteArray) : RV ι (.string s) (.string s)
 | ptr0 : RV ι (.pointer none) (.pointer none)
 | ptr (b o : Nat) (l : Loc) (h : ι b = some l) : RV ι (.pointer (some ⟨b,o,none⟩)) (.pointer (some ⟨l.blk,l.base + o,none⟩))
 | slice0 : RV ι (.slice none 0 0) (.slice none 0 0)
 | sliceU (b o n c c' : Nat) (l : Loc) (h : ι b = some l) (hn : n ≤ c) (hc : c ≤ c') (ht : l.sz = 0 ∨ l.base + o + c' * l.sz ≤ l.tot) :
   RV ι (.slice (some ⟨b,o,none⟩) n c) (.slice (some ⟨l.blk,l.base + o,none⟩) n c')
 | sliceUZ (b o : Nat) (a' : Addr) (l : Loc) (h : ι b = some l) : RV ι (.slice (some ⟨b,o,none⟩) 0 0) (.slice (some a') 0 0)
 | sliceX (b o n c : Nat) (l : Loc) (h : ι b = some l) (hn : n ≤ c) (ht : l.sz = 0 ∨ l.base + o + c * l.sz ≤ l.tot) :
   RV ι (.slice (some ⟨b,o,some 1⟩) n c) (.slice (some ⟨l.blk,l.base + o,none⟩) n c)
 | sliceXZ (b o : Nat) (a' : Addr) (l : Loc) (h : ι b = some l) : RV ι (.slice (some ⟨b,o,some 1⟩) 0 0) (.slice (some a') 0 0)
 | map0 : RV ι (.map none) (.map none)
 | map (r : Nat) (l : Loc) (h : ι r = some l) : RV ι (.map (some r)) (.map (some l.blk))
 | nilFunc : RV ι .nilFunc .nilFunc
 | func (f : FuncId) (xs ys xs' ys' : List Value) (h : RVs ι xs xs') (h' : RVs ι ys ys') : RV ι (.func (.func f) ⟨xs⟩ ⟨ys⟩) (.func (.func f) ⟨xs'⟩ ⟨ys'⟩)
 | dptr (cs : List Value) (B o : Nat) (h : ι.holds B o cs) : RV ι (.func (.yield 0) ⟨cs⟩ ⟨[]⟩) (.pointer (some ⟨B,o,none⟩))
 | dsl (m sz n : Nat) (xs : List Value) (B o c' : Nat) (h : ι.holds B o xs) (hl : xs.length = n * sz) (hc : n ≤ c') (h1 : m = 1 → c' = n)
   (h2 : ∀ t,m = t + 2 → ∃ lt,ι.loc t = some lt ∧ lt.blk = B ∧ lt.base = o + n * sz ∧ lt.sz = sz ∧ o + c' * sz ≤ lt.tot) :
   RV ι (.func (.yield 1) ⟨xs⟩ ⟨[.slice none m sz,.slice none n 0]⟩) (.slice (some ⟨B,o,none⟩) n c')
 | dslZ (m sz : Nat) (a' : Addr) (hm : m ≤ 1) : RV ι (.func (.yield 1) ⟨[]⟩ ⟨[.slice none m sz,.slice none 0 0]⟩) (.slice (some a') 0 0)
 | nilIface : RV ι .nilIface .nilIface
 | iface (t : TypeId) (v v' : Value) (h : RV ι v v') : RV ι (.iface t v) (.iface t v')
 | agg (xs xs' : List Value) (h : RVs ι xs xs') : RV ι (.agg ⟨xs⟩) (.agg ⟨xs'⟩)
 | tuple (xs xs' : List Value) (h : RVs ι xs xs') : RV ι (.tuple ⟨xs⟩) (.tuple ⟨xs'⟩)
 | tok (n t : Nat) : RV ι (.complex .f64 n t) (.pointer (some ⟨n,t,none⟩))
inductive RVs (ι : Emb) : List Value → List Value → Prop
 | nil : RVs ι [] []
 | cons (v v' : Value) (vs vs' : List Value) (h : RV ι v v') (hs : RVs ι vs vs') : RVs ι (v :: vs) (v' :: vs')
end

structure Emb.le (ι ι' : Emb) : Prop where
 loc : ∀ b l,ι b = some l → ι' b = some l
 imm : ∀ B o v,ι.imm B o v → ι'.imm B o v
instance {ι ι' : Emb} : CoeFun (ι.le ι') (fun _ => ∀ b l,ι b = some l → ι' b = some l) := ⟨Emb.le.loc⟩
theorem Emb.le.refl (ι : Emb) : ι.le ι := ⟨fun _ _ h => h,fun _ _ _ h => h⟩
theorem Emb.le.trans {ι ι' ι'' : Emb} (h : ι.le ι') (h' : ι'.le ι'') : ι.le ι'' := ⟨fun b l e => h'.loc b l (h.loc b l e),fun B o v e => h'.imm B o v (h.imm B o v e)⟩
theorem Emb.holds.mono {ι ι' : Emb} {B o : Nat} {cs : List Value} (h : ι.holds B o cs) (hle : ι.le ι') : ι'.holds B o cs := fun i v e => hle.imm _ _ _ (h i v e)
theorem Emb.holds.drop {ι : Emb} {B o : Nat} {cs : List Value} (h : ι.holds B o cs) (k : Nat) : ι.holds B (o + k) (cs.drop k) := fun i v e => by
 rw [Nat.add_assoc]; exact h _ _ (by rw [List.getElem?_drop] at e; exact e)
theorem Emb.holds.take {ι : Emb} {B o : Nat} {cs : List Value} (h : ι.holds B o cs) (k : Nat) : ι.holds B o (cs.take k) := fun i v e => by
 refine h _ _ ?_
 rw [List.getElem?_take] at e
 split at e
 ·exact e
 ·cases e
theorem Emb.holds.nil {ι : Emb} {B o : Nat} : ι.holds B o [] := fun i v e => by simp at e

mutual
theorem RV.mono {ι ι' : Emb} (hle : ι.le ι') {v v' : Value} (h : RV ι v v') : RV ι' v v' := by
 cases h with
 | bool b => exact .bool b
 | int k n => exact .int k n
 | string s => exact .string s
 | ptr0 => exact .ptr0
 | ptr b o l h => exact .ptr b o l (hle _ _ h)
 | slice0 => exact .slice0
 | sliceU b o n c c' l h hn hc ht => exact .sliceU b o n c c' l (hle _ _ h) hn hc ht
 | sliceUZ b o a l h => exact .sliceUZ b o a l (hle _ _ h)
 | sliceX b o n c l h hn ht => exact .sliceX b o n c l (hle _ _ h) hn ht
 | sliceXZ b o a l h => exact .sliceXZ b o a l (hle _ _ h)
 | map0 => exact .map0
 | map r l h => exact .map r l (hle _ _ h)
 | nilFunc => exact .nilFunc
 | func fn xs ys xs' ys' h h' => exact .func fn xs ys xs' ys' (RVs.mono hle h) (RVs.mono hle h')
 | dptr cs B o h => exact .dptr cs B o (h.mono hle)
 | dsl m sz n xs B o c' h hl hc h1 h2 => exact .dsl m sz n xs B o c' (h.mono hle) hl hc h1 (fun t e => let ⟨lt,k1,k2⟩ := h2 t e; ⟨lt,hle.loc _ _ k1,k2⟩)
 | dslZ m sz a hm => exact .dslZ m sz a hm
 | nilIface => exact .nilIface
 | iface t v v' h => exact .iface t v v' (RV.mono hle h)
 | agg xs xs' h => exact .agg xs xs' (RVs.mono hle h)
 | tuple xs xs' h => exact .tuple xs xs' (RVs.mono hle h)
 | tok n t => exact .tok n t
theorem RVs.mono {ι ι' : Emb} (hle : ι.le ι') {vs vs' : List Value} (h : RVs ι vs vs') : RVs ι' vs vs' := by
 cases h with
 | nil => exact .nil
 | cons v v' vs vs' h hs => exact .cons v v' vs vs' (RV.mono hle h) (RVs.mono hle hs)
end

theorem RVs.length {ι : Emb} {vs vs' : List Value} (h : RVs ι vs vs') : vs.length = vs'.length := by
 induction vs generalizing vs' with
 | nil => cases h; rfl
 | cons v vs ih => cases h with | cons _ _ _ _ _ hs => simp [ih hs]
theorem RVs.get {ι : Emb} {vs vs' : List Value} (h : RVs ι vs vs') (i : Nat) (v : Value) (hv : vs[i]? = some v) : ∃ v',vs'[i]? = some v' ∧ RV ι v v' := by
 induction vs generalizing vs' i with
 | nil => simp at hv
 | cons u vs ih =>
  cases h with
  | cons _ v' _ vs' h hs =>
   cases i with
   | zero => simp at hv; subst hv; exact ⟨v',rfl,h⟩
   | succ i => simpa using ih hs i (by simpa using hv)
theorem RVs.get_none {ι : Emb} {vs vs' : List Value} (h : RVs ι vs vs') (i : Nat) (hv : vs[i]? = none) : vs'[i]? = none := by
 have := h.length; simp only [List.getElem?_eq_none_iff] at *; omega
theorem RVs.of_get {ι : Emb} {vs vs' : List Value} (hl : vs.length = vs'.length) (h : ∀ (i : Nat) (v v' : Value),vs[i]? = some v → vs'[i]? = some v' → RV ι v v') : RVs ι vs vs' := by
 induction vs generalizing vs' with
 | nil => cases vs' with | nil => exact .nil | cons _ _ => simp at hl
 | cons v vs ih =>
  cases vs' with
  | nil => simp at hl
  | cons v' vs' => exact .cons _ _ _ _ (h 0 v v' rfl rfl) (ih (by simpa using hl) fun i u u' hu hu' => h (i + 1) u u' (by simpa using hu) (by simpa using hu'))
theorem RVs.append {ι : Emb} {a a' b b' : List Value} (h : RVs ι a a') (h' : RVs ι b b') : RVs ι (a ++ b) (a' ++ b') := by
 induction a generalizing a' with
 | nil => cases h; exact h'
 | cons v vs ih => cases h with | cons _ _ _ _ h hs => exact .cons _ _ _ _ h (ih hs)
theorem RVs.take {ι : Emb} {a a' : List Value} (h : RVs ι a a') (n : Nat) : RVs ι (a.take n) (a'.take n) := by
 induction a generalizing a' n with
 | nil => cases h; simp; exact .nil
 | cons v vs ih => cases h with | cons _ _ _ _ h hs => cases n with
  | zero => simp; exact .nil
  | succ n => simp; exact .cons _ _ _ _ h (ih hs n)
theorem RVs.drop {ι : Emb} {a a' : List Value} (h : RVs ι a a') (n : Nat) : RVs ι (a.drop n) (a'.drop n) := by
 induction a generalizing a' n with
 | nil => cases h; simp; exact .nil
 | cons v vs ih => cases h with | cons _ _ _ _ h hs => cases n with
  | zero => simp; exact .cons _ _ _ _ h hs
  | succ n => simp; exact ih hs n
theorem RVs.set {ι : Emb} {a a' : List Value} (h : RVs ι a a') (n : Nat) {v v' : Value} (hv : RV ι v v') : RVs ι (a.set n v) (a'.set n v') := by
 induction a generalizing a' n with
 | nil => cases h; simp; exact .nil
 | cons u vs ih => cases h with | cons _ _ _ _ h hs => cases n with
  | zero => simp; exact .cons _ _ _ _ hv hs
  | succ n => simp; exact .cons _ _ _ _ h (ih hs n)
theorem RV.undef {ι : Emb} : RV ι undef undef := .tuple [] [] .nil
theorem RVs.replicate {ι : Emb} (n : Nat) {v v' : Value} (hv : RV ι v v') : RVs ι (List.replicate n v) (List.replicate n v') := by
 induction n with
 | zero => simp; exact .nil
 | succ n ih => simp [List.replicate_succ]; exact .cons _ _ _ _ hv ih
theorem RVs.getD {ι : Emb} {vs vs' : List Value} (h : RVs ι vs vs') (i : Nat) {d d' : Value} (hd : RV ι d d') : RV ι (vs.getD i d) (vs'.getD i d') := by
 cases hv : vs[i]? with
 | none => simp [List.getD,hv,h.get_none i hv]; exact hd
 | some v => obtain ⟨v',h1,h2⟩ := h.get i v hv; simp [List.getD,hv,h1]; exact h2
theorem RVs.map_val {ι : Emb} {α : Type} (l : List α) (f g : α → Value) (h : ∀ a ∈ l,RV ι (f a) (g a)) : RVs ι (l.map f) (l.map g) := by
 induction l with
 | nil => exact .nil
 | cons a l ih => exact .cons _ _ _ _ (h a (by simp)) (ih fun b hb => h b (by simp [hb]))

theorem RV.cells {ι : Emb} {v v' : Value} (h : RV ι v v') : RVs ι (vcells v) v'.cells.toList := by
 cases h <;> first | (simp only [vcells,Value.cells]; exact .cons _ _ _ _ (by first | assumption | constructor <;> assumption) .nil) | assumption
theorem RV.oneCell {ι : Emb} {v v' : Value} (h : RV ι v v') (h1 : AbsYtkhcbbpfchgemaaDoor.oneCell v = true) : v'.oneCell' = true := by
 cases h <;> first | rfl | simp [AbsYtkhcbbpfchgemaaDoor.oneCell] at h1

def closedV : Value → Bool
 | .bool _ | .int _ _ | .string _ | .pointer none | .map none | .nilFunc | .nilIface => true
 | .slice none 0 0 => true
 | _ => false
theorem RV.closed {ι : Emb} {v : Value} (h : closedV v = true) : RV ι v v := by
 unfold closedV at h
 split at h <;> first | constructor | simp at h
theorem ZV.closed (z : ZV) : closedV z.val = true := by cases z <;> rfl
theorem RVs.zeros {ι : Emb} (zs : List ZV) : RVs ι (zs.map ZV.val) (zs.map ZV.val) := RVs.map_val _ _ _ fun z _ => RV.closed z.closed

def wrt (H : AHeap) (b : Nat) : Bool :=
 match H.get b with
 | .cells _ w _ => w
 | .map .. => true
 | .dead => false
def live (H : AHeap) (b : Nat) : Bool :=
 match H.get b with
 | .dead => false
 | _ => true

inductive REs (ι : Emb) : List MapEntry → List MapEntry → Prop
 | nil : REs ι [] []
 | cons (e e' : MapEntry) (es es' : List MapEntry) (hk : e'.key = e.key) (hb : e'.born = e.born) (hv : RV ι e.val e'.val) (hs : REs ι es es') : REs ι (e :: es) (e' :: es')
theorem REs.mono {ι ι' : Emb} (hle : ι.le ι') {es es' : List MapEntry} (h : REs ι es es') : REs ι' es es' := by
 induction h with
 | nil => exact .nil
 | cons e e' es es' hk hb hv _ ih => exact .cons e e' es es' hk hb (hv.mono hle) ih

def CellsAt (ι : Emb) (C : Array Value) (base : Nat) (cs : List Value) : Prop := ∀ (i : Nat) (v : Value),cs[i]? = some v → ∃ v',C[base + i]? = some v' ∧ RV ι v v'
def Unfrozen (fz : Nat × Nat) (n : Nat) : Prop := ∀ off,off < n → ¬ (fz.1 ≤ off ∧ off < fz.2)

def BaseOk (E : Env) (ι : Emb) : Prop := ∀ b b',E.ng ≤ b → b < E.nb → E.ng ≤ b' → b' < E.nb → b ≠ b' → ∃ l l',ι b = some l ∧ ι b' = some l' ∧ ¬ (l.blk = l'.blk ∧ l.base = l'.base)
theorem BaseOk.mono {E : Env} {ι ι' : Emb} (h : BaseOk E ι) (hle : ι.le ι') : BaseOk E ι' := fun b b' h1 h2 h3 h4 h5 => by
 obtain ⟨l,l',k1,k2,k3⟩ := h b b' h1 h2 h3 h4 h5
 exact ⟨l,l',hle _ _ k1,hle _ _ k2,k3⟩
structure Rel (E : Env) (ι : Emb) (H : AHeap) (w : World) : Prop where
 dom : ∀ b l,ι b = some l → l.blk < w.heap.size
 cells : ∀ b l cs wr sz,ι b = some l → H.get b = .cells cs wr sz → ∃ C ty fz,w.heap[l.blk]? = some (.cells C ty fz) ∧ C.size = l.tot ∧ l.sz = sz ∧ l.base + cs.length ≤ l.tot ∧
  CellsAt ι C l.base cs ∧ (wr = true → Unfrozen fz l.tot) ∧ (sz = 0 → fz = (0,0))
 maps : ∀ b l es clk,ι b = some l → H.get b = .map es clk → ∃ es',w.heap[l.blk]? = some (.map es' clk) ∧ REs ι es es'.toList
 inj : ∀ b b' l l',ι b = some l → ι b' = some l' → b ≠ b' → wrt H b = true → live H b' = true → l.blk ≠ l'.blk
 glob : ∀ g,g < E.ng → ∃ l,ι g = some l ∧ l.blk = g ∧ l.base = 0
 base : BaseOk E ι
 imm : ∀ B o v,ι.imm B o v → frz E.ng E.nb v = true ∧ ∃ C ty fz v',w.heap[B]? = some (.cells C ty fz) ∧ C[o]? = some v' ∧ RV ι v v'
 immw : ∀ b l B o v,ι b = some l → wrt H b = true → ι.imm B o v → l.blk = B → o < l.base

def faint (o p : AObj) : Prop := o = p ∨ o = .dead ∨ ∃ cs wr sz,p = .cells cs wr sz ∧ o = .cells [] false sz
theorem Rel.faint {E : Env} {ι : Emb} {w : World} {K H : AHeap} (h : Rel E ι K w) (he : ∀ b l,ι b = some l → AbsYtkhcbbpfchgemaaDoor.faint (H.get b) (K.get b)) : Rel E ι H w where
 dom := h.dom
 cells b l cs wr sz hb hg := by
  rcases he b l hb with h1 | h1 | ⟨cs',wr',sz',h1,h2⟩
  ·exact h.cells b l cs wr sz hb (by rw [← h1]; exact hg)
  ·rw [h1] at hg; cases hg
  ·rw [h2] at hg; injection hg with e1 e2 e3; subst e1; subst e2; subst e3
   obtain ⟨C,ty,fz,k1,k2,k3,k4,k5,k6,k7⟩ := h.cells b l cs' wr' sz' hb h1
   exact ⟨C,ty,fz,k1,k2,k3,by simp; omega,fun i v hv => by simp at hv,(fun e => nomatch e),k7⟩
 maps b l es clk hb hg := by
  rcases he b l hb with h1 | h1 | ⟨cs',wr',sz',h1,h2⟩
  ·exact h.maps b l es clk hb (by rw [← h1]; exact hg)
  ·rw [h1] at hg; cases hg
  ·rw [h2] at hg; cases hg
 inj b b' l l' hb hb' hne hw hl := by
  refine h.inj b b' l l' hb hb' hne ?_ ?_
  ·rcases he b l hb with h1 | h1 | ⟨cs',wr',sz',h1,h2⟩
   ·simpa only [wrt,h1] using hw
   ·simp [wrt,h1] at hw
   ·simp [wrt,h2] at hw
  ·rcases he b' l' hb' with h1 | h1 | ⟨cs',wr',sz',h1,h2⟩
   ·simpa only [live,h1] using hl
   ·simp [live,h1] at hl
   ·simp [live,h1]
 glob := h.glob
 base := h.base
 imm := h.imm
 immw b l B o v hb hw := by
  refine h.immw b l B o v hb ?_
  rcases he b l hb with h1 | h1 | ⟨cs',wr',sz',h1,h2⟩
  ·simpa only [wrt,h1] using hw
  ·simp [wrt,h1] at hw
  ·simp [wrt,h2] at hw

theorem AHeap.empty_get (b : Nat) : AHeap.empty.get b = .dead := by simp [AHeap.empty,AHeap.get,Tr.get,Tr.getF_lf]
theorem Rel.empty {E : Env} {ι : Emb} {w : World} {K : AHeap} (h : Rel E ι K w) : Rel E ι .empty w := h.faint fun b _ _ => .inr (.inl (AHeap.empty_get b))

def Dm (ι : Emb) (H : AHeap) : Prop := ∀ b l,ι b = some l → b < H.size
theorem Dm.free {ι : Emb} {H : AHeap} (h : Dm ι H) : ι H.size = none := by
 cases hi : ι H.size with
 | none => rfl
 | some l => exact absurd (h _ _ hi) (by omega)

structure Step (ι : Emb) (H : AHeap) (w : World) (ι' : Emb) (H' : AHeap) (w' : World) : Prop where
 ext : ι.le ι'
 new : ∀ b l,ι' b = some l → ι b = none → H.size ≤ b ∧ b < H'.size
 hsz : H.size ≤ H'.size
 own : ∀ b l,ι' b = some l → wrt H' b = true → w.heap.size ≤ l.blk ∨ ∃ b0 l0,ι b0 = some l0 ∧ l0.blk = l.blk ∧ wrt H b0 = true
 place : ∀ b l,ι' b = some l → ι b = none → w.heap.size ≤ l.blk ∨ ∃ b0 l0,ι b0 = some l0 ∧ l0.blk = l.blk ∧ wrt H b0 = true
 liv : ∀ b,b < H.size → live H' b = true → live H b = true
 os : w'.os = w.os
 tape : w'.tape = w.tape
 output : w'.output = w.output
 size : w.heap.size ≤ w'.heap.size
 frame : ∀ B,B < w.heap.size → (∀ b l,ι b = some l → l.blk = B → wrt H b = false) → w'.heap[B]? = w.heap[B]?
 away : ∀ b,b < H.size → ι b = none → H'.get b = H.get b
 fresh : ∀ B o v,ι'.imm B o v → ι.imm B o v ∨ w.heap.size ≤ B ∨ ∃ b0 l0,ι b0 = some l0 ∧ l0.blk = B ∧ wrt H b0 = true

theorem Dm.step {ι ι' : Emb} {H H' : AHeap} {w w' : World} (h : Dm ι H) (k : Step ι H w ι' H' w') : Dm ι' H' := fun b l hb => by
 cases hi : ι b with
 | none => exact (k.new b l hb hi).2
 | some l0 => exact Nat.lt_of_lt_of_le (h b l0 hi) k.hsz

theorem Step.refl (ι : Emb) (H : AHeap) (w : World) : Step ι H w ι H w :=
 ⟨Emb.le.refl ι,fun b l h h' => by simp [h] at h',Nat.le_refl _,fun b l h hw => .inr ⟨b,l,h,rfl,hw⟩,fun b l h h' => by simp [h] at h',fun _ _ h => h,rfl,rfl,rfl,Nat.le_refl _,fun _ _ _ => rfl,fun _ _ _ => rfl,fun _ _ _ h => .inl h⟩

theorem Step.trans {ι ι1 ι2 : Emb} {H H1 H2 : AHeap} {w w1 w2 : World}
  (h : Step ι H w ι1 H1 w1) (k : Step ι1 H1 w1 ι2 H2 w2) : Step ι H w ι2 H2 w2 where
 ext := h.ext.trans k.ext
 new b l hb hn := by
  cases h1 : ι1 b with
  | none => exact ⟨Nat.le_trans h.hsz (k.new b l hb h1).1,(k.new b l hb h1).2⟩
  | some l1 => exact ⟨(h.new b l1 h1 hn).1,Nat.lt_of_lt_of_le (h.new b l1 h1 hn).2 k.hsz⟩
 hsz := Nat.le_trans h.hsz k.hsz
 own b l hb hw := by
  rcases k.own b l hb hw with h1 | ⟨b0,l0,h1,h2,h3⟩
  ·exact .inl (Nat.le_trans h.size h1)
  ·rcases h.own b0 l0 h1 h3 with h4 | ⟨b1,l1,h4,h5,h6⟩
   ·exact .inl (h2 ▸ h4)
   ·exact .inr ⟨b1,l1,h4,h5.trans h2,h6⟩
 place b l hb hn := by
  cases h1 : ι1 b with
  | none =>
   rcases k.place b l hb h1 with h2 | ⟨b0,l0,h2,h3,h4⟩
   ·exact .inl (Nat.le_trans h.size h2)
   ·rcases h.own b0 l0 h2 h4 with h5 | ⟨b1,l1,h5,h6,h7⟩
    ·exact .inl (h3 ▸ h5)
    ·exact .inr ⟨b1,l1,h5,h6.trans h3,h7⟩
  | some l1 =>
   have := k.ext _ _ h1
   rw [hb] at this; injection this with this; subst this
   exact h.place b l h1 hn
 liv b hb hl := h.liv b hb (k.liv b (Nat.lt_of_lt_of_le hb h.hsz) hl)
 os := k.os.trans h.os
 tape := k.tape.trans h.tape
 output := k.output.trans h.output
 size := Nat.le_trans h.size k.size
 frame B hB hno := by
  rw [k.frame B (Nat.lt_of_lt_of_le hB h.size) ?_,h.frame B hB hno]
  intro b l hb hbl
  cases hw : wrt H1 b with
  | false => rfl
  | true =>
   rcases h.own b l hb hw with h1 | ⟨b0,l0,h1,h2,h3⟩
   ·omega
   ·rw [hno b0 l0 h1 (h2.trans hbl)] at h3; simp at h3
 away b hb hn := by
  cases h1 : ι1 b with
  | none => rw [k.away b (Nat.lt_of_lt_of_le hb h.hsz) h1,h.away b hb hn]
  | some l => have := (h.new b l h1 hn).1; omega
 fresh B o v hi := by
  rcases k.fresh B o v hi with h1 | h1 | ⟨b0,l0,h1,h2,h3⟩
  ·exact h.fresh B o v h1
  ·exact .inr (.inl (Nat.le_trans h.size h1))
  ·rcases h.own b0 l0 h1 h3 with h4 | ⟨b1,l1,h4,h5,h6⟩
   ·exact .inr (.inl (h2 ▸ h4))
   ·exact .inr (.inr ⟨b1,l1,h4,h5.trans h2,h6⟩)

end AbsYtkhcbbpfchgemaaDoor

/-
 Blocks that are made,written and given up: the relation behind each.
-/
namespace AbsYtkhcbbpfchgemaaDoor
set_option linter.unusedVariables false
set_option linter.unusedSimpArgs false
set_option linter.unusedSectionVars false
open Go

def putBlk (w : World) (B : Nat) (o : Obj) : World := { w with heap := w.heap.setIfInBounds B o }
theorem putBlk_get (w : World) (B : Nat) (o : Obj) (hB : B < w.heap.size) : (putBlk w B o).heap[B]? = some o := by simp [putBlk,hB]
theorem putBlk_ne (w : World) (B : Nat) (o : Obj) {k : Nat} (h : B ≠ k) : (putBlk w B o).heap[k]? = w.heap[k]? := by simp [putBlk,Array.getElem?_setIfInBounds_ne h]
theorem putBlk_size (w : World) (B : Nat) (o : Obj) : (putBlk w B o).heap.size = w.heap.size := by simp [putBlk]
theorem putBlk_putBlk (w : World) (B : Nat) (o o' : Obj) : putBlk (putBlk w B o) B o' = putBlk w B o' := by simp [putBlk,Array.setIfInBounds_setIfInBounds]
theorem putBlk_self (w : World) (B : Nat) (o : Obj) (h : w.heap[B]? = some o) : putBlk w B o = w := by
 unfold putBlk
 have : w.heap.setIfInBounds B o = w.heap := by
  apply Array.ext_getElem?
  intro i
  by_cases hi : B = i
  ·subst hi
   have hlt : B < w.heap.size := by
    rcases Nat.lt_or_ge B w.heap.size with h1 | h1
    ·exact h1
    ·simp [Array.getElem?_eq_none h1] at h
   rw [h,Array.getElem?_setIfInBounds_self_of_lt hlt]
  ·rw [Array.getElem?_setIfInBounds_ne hi]
 rw [this]

def asplice (C : Array Value) (o : Nat) (xs : List Value) : Array Value := (C.toList.take o ++ xs ++ C.toList.drop (o + xs.length)).toArray
theorem asplice_size (C : Array Value) (o : Nat) (xs : List Value) (h : o + xs.length ≤ C.size) : (asplice C o xs).size = C.size := by
 simp [asplice]; omega
theorem asplice_in (C : Array Value) (o : Nat) (xs : List Value) (h : o + xs.length ≤ C.size) (i : Nat) (hi : i < xs.length) : (asplice C o xs)[o + i]? = xs[i]? := by
 simp only [asplice,List.getElem?_toArray]
 rw [List.append_assoc,List.getElem?_append_right (by simp; omega),List.getElem?_append_left (by simp; omega)]
 congr 1
 simp; omega
theorem asplice_out (C : Array Value) (o : Nat) (xs : List Value) (h : o + xs.length ≤ C.size) (i : Nat) (hi : i < o ∨ o + xs.length ≤ i) : (asplice C o xs)[i]? = C[i]? := by
 simp only [asplice,List.getElem?_toArray]
 rcases hi with hi | hi
 ·rw [List.append_assoc,List.getElem?_append_left (by simp; omega),List.getElem?_take_of_lt hi,Array.getElem?_toList]
 ·rw [List.getElem?_append_right (by simp; omega),List.getElem?_drop,Array.getElem?_toList]
  congr 1
  simp; omega
theorem asplice_nil (C : Array Value) (o : Nat) : asplice C o [] = C := by simp [asplice]
theorem asplice_cons (C : Array Value) (o : Nat) (v : Value) (xs : List Value) (h : o + (xs.length + 1) ≤ C.size) : asplice (C.setIfInBounds o v) (o + 1) xs = asplice C o (v :: xs) := by
 apply Array.ext_getElem?
 intro i
 have hs : o + 1 + xs.length ≤ (C.setIfInBounds o v).size := by simp; omega
 have hl : o + (v :: xs).length ≤ C.size := by simpa using h
 by_cases h1 : i < o
 ·rw [asplice_out _ _ _ hs i (by omega),asplice_out _ _ _ hl i (by omega),Array.getElem?_setIfInBounds_ne (by omega)]
 ·by_cases h2 : i = o
  ·subst h2
   rw [asplice_out _ _ _ hs i (by omega)]
   have := asplice_in C i (v :: xs) hl 0 (by simp)
   rw [Nat.add_zero] at this
   rw [this,Array.getElem?_setIfInBounds_self_of_lt (by omega)]
   rfl
  ·by_cases h3 : i < o + (xs.length + 1)
   ·have e1 := asplice_in (C.setIfInBounds o v) (o + 1) xs hs (i - (o + 1)) (by omega)
    have e2 := asplice_in C o (v :: xs) hl (i - o) (by simp; omega)
    rw [show o + 1 + (i - (o + 1)) = i by omega] at e1
    rw [show o + (i - o) = i by omega] at e2
    rw [e1,e2,show i - o = (i - (o + 1)) + 1 by omega,List.getElem?_cons_succ]
   ·rw [asplice_out _ _ _ hs i (by omega),asplice_out _ _ _ hl i (by simp; omega),Array.getElem?_setIfInBounds_ne (by omega)]

theorem add_addr (B o i : Nat) : (⟨B,o,none⟩ : Addr).add i = ⟨B,o + i,none⟩ := by unfold Addr.add; split <;> simp_all
theorem cell_of {w : World} {B : Nat} {C : Array Value} {ty : TypeId} {fz : Nat × Nat} (h : w.heap[B]? = some (.cells C ty fz)) (o : Nat) : w.cell? ⟨B,o,none⟩ = C[o]? := by
 simp [World.cell?,h]
theorem frozen_of {w : World} {B : Nat} {C : Array Value} {ty : TypeId} {fz : Nat × Nat} (h : w.heap[B]? = some (.cells C ty fz)) (o : Nat) :
  w.frozen? ⟨B,o,none⟩ = (decide (fz.1 ≤ o) && decide (o < fz.2)) := by
 simp [World.frozen?,h]
theorem setCell_put {w : World} {B : Nat} {C : Array Value} {ty : TypeId} {fz : Nat × Nat} (h : w.heap[B]? = some (.cells C ty fz)) (o : Nat) (v : Value) :
  w.setCell ⟨B,o,none⟩ v = putBlk w B (.cells (C.setIfInBounds o v) ty fz) := by
 unfold World.setCell putBlk
 congr 1
 apply Array.ext_getElem?
 intro i
 rw [Array.getElem?_modify]
 by_cases hi : B = i
 ·subst hi
  have hlt : B < w.heap.size := by
   rcases Nat.lt_or_ge B w.heap.size with h1 | h1
   ·exact h1
   ·simp [Array.getElem?_eq_none h1] at h
  rw [if_pos rfl,h,Array.getElem?_setIfInBounds_self_of_lt hlt]
  rfl
 ·rw [if_neg hi,Array.getElem?_setIfInBounds_ne hi]

theorem run_storeCells {P : Program} {B off : Nat} {ty : TypeId} {fz : Nat × Nat} : ∀ (xs : List Value) (i : Nat) (C : Array Value) (w : World),
  w.heap[B]? = some (.cells C ty fz) → off + i + xs.length ≤ C.size → (∀ v ∈ xs,v.oneCell' = true) → Unfrozen fz C.size →
  (storeCells ⟨B,off,none⟩ xs i).run P w = .ok () (putBlk w B (.cells (asplice C (off + i) xs) ty fz))
 | [],i,C,w,h,_,_,_ => by
  rw [asplice_nil,putBlk_self _ _ _ h]; rfl
 | v :: xs,i,C,w,h,hl,h1,hf => by
  have hB : B < w.heap.size := by
   rcases Nat.lt_or_ge B w.heap.size with h1 | h1
   ·exact h1
   ·simp [Array.getElem?_eq_none h1] at h
  have hlt : off + i < C.size := by simp at hl; omega
  have hst : (store ((⟨B,off,none⟩ : Addr).add i) v).run P w = .ok () (putBlk w B (.cells (C.setIfInBounds (off + i) v) ty fz)) := by
   rw [add_addr,← setCell_put h]
   have hc : w.cell? ⟨B,off + i,none⟩ = some C[off + i] := by rw [cell_of h]; simp [hlt]
   have hz : w.frozen? ⟨B,off + i,none⟩ = false := by
    rw [frozen_of h]
    have := hf (off + i) hlt
    simp only [Bool.and_eq_false_iff,decide_eq_false_iff_not]
    omega
   have hv := h1 v (by simp)
   cases v <;> first | (simp [Value.oneCell'] at hv; done) | simp [store,Sem.run,hc,hz]
  simp only [storeCells,Sem.run_bind,hst,Result.andThen_ok]
  rw [run_storeCells xs (i + 1) (C.setIfInBounds (off + i) v) _ (putBlk_get _ _ _ hB) (by simp at hl ⊢; omega) (fun u hu => h1 u (by simp [hu])) (by simpa using hf),putBlk_putBlk]
  rw [show off + (i + 1) = off + i + 1 by omega,asplice_cons _ _ _ _ (by simp at hl; omega)]

theorem run_loadCells' {P : Program} {w : World} {B o n : Nat} {C : Array Value} {ty : TypeId} {fz : Nat × Nat} (h : w.heap[B]? = some (.cells C ty fz)) (hn : o + n ≤ C.size) :
  (loadCells ⟨B,o,none⟩ n).run P w = .ok ((C.toList.drop o).take n).toArray w := by
 have hl : ((C.toList.drop o).take n).length = n := by simp; omega
 have := run_loadCells_list (P := P) w ⟨B,o,none⟩ ((C.toList.drop o).take n) (fun j v hv => by
  rw [add_addr,cell_of h]
  have hj : j < n := by
   rcases Nat.lt_or_ge j n with h1 | h1
   ·exact h1
   ·rw [List.getElem?_eq_none (by omega)] at hv; simp at hv
  rw [List.getElem?_take_of_lt hj,List.getElem?_drop,Array.getElem?_toList] at hv
  exact hv)
 rw [hl] at this
 exact this

theorem CellsAt.mono {ι ι' : Emb} (hle : ι.le ι') {C : Array Value} {base : Nat} {cs : List Value} (h : CellsAt ι C base cs) : CellsAt ι' C base cs :=
 fun i v hv => let ⟨v',h1,h2⟩ := h i v hv; ⟨v',h1,h2.mono hle⟩
theorem CellsAt.slice {ι : Emb} {C : Array Value} {base : Nat} {cs : List Value} (h : CellsAt ι C base cs) {o n : Nat} (hn : o + n ≤ cs.length) :
  RVs ι ((cs.drop o).take n) ((C.toList.drop (base + o)).take n) := by
 have hlen : base + cs.length ≤ C.size ∨ cs = [] := by
  cases hcs : cs.getLast? with
  | none => right; simpa using hcs
  | some v =>
   left
   have h0 : cs[cs.length - 1]? = some v := by rw [← hcs,List.getLast?_eq_getElem?]
   obtain ⟨v',h1,_⟩ := h _ _ h0
   have h2 : base + (cs.length - 1) < C.size := by
    rcases Nat.lt_or_ge (base + (cs.length - 1)) C.size with h3 | h3
    ·exact h3
    ·simp [Array.getElem?_eq_none h3] at h1
   have : cs.length ≠ 0 := by intro e; simp [List.length_eq_zero_iff.1 e] at h0
   omega
 refine RVs.of_get ?_ ?_
 ·rcases hlen with hl | hl
  ·simp; omega
  ·subst hl; simp at hn ⊢; omega
 ·intro i v v' hv hv'
  have hi : i < n := by
   rcases Nat.lt_or_ge i n with h1 | h1
   ·exact h1
   ·rw [List.getElem?_eq_none (by simp; omega)] at hv; simp at hv
  rw [List.getElem?_take_of_lt hi,List.getElem?_drop] at hv
  rw [List.getElem?_take_of_lt hi,List.getElem?_drop,Array.getElem?_toList] at hv'
  obtain ⟨u,h1,h2⟩ := h _ _ hv
  rw [show base + (o + i) = base + o + i by omega] at h1
  rw [h1] at hv'
  simp at hv'; subst hv'; exact h2

theorem getElem?_lt {α : Type} {a : Array α} {i : Nat} {v : α} (h : a[i]? = some v) : i < a.size := by
 rcases Nat.lt_or_ge i a.size with h1 | h1
 ·exact h1
 ·simp [Array.getElem?_eq_none h1] at h

section
variable {E : Env} {ι : Emb} {H : AHeap} {w : World}

theorem Rel.world (h : Rel E ι H w) {w' : World} (hh : w'.heap = w.heap) : Rel E ι H w' := by
 constructor
 ·rw [hh]; exact h.dom
 ·rw [hh]; exact h.cells
 ·rw [hh]; exact h.maps
 ·exact h.inj
 ·exact h.glob
 ·exact h.base
 ·rw [hh]; exact h.imm
 ·exact h.immw
theorem Step.world {ι' : Emb} {H' : AHeap} {w1 w2 : World} (h : Step ι H w ι' H' w1) (hh : w2.heap = w1.heap) (ho : w2.os = w1.os) (ht : w2.tape = w1.tape) (hp : w2.output = w1.output) : Step ι H w ι' H' w2 :=
 ⟨h.ext,h.new,h.hsz,h.own,h.place,h.liv,ho.trans h.os,ht.trans h.tape,hp.trans h.output,by rw [hh]; exact h.size,by rw [hh]; exact h.frame,h.away,h.fresh⟩

def Emb.with (ι : Emb) (b : Nat) (l : Loc) : Emb := ⟨fun c => if c = b then some l else ι c,ι.imm⟩
theorem Emb.with_same (ι : Emb) (b : Nat) (l : Loc) : ι.with b l b = some l := by simp [Emb.with]
theorem Emb.with_ne (ι : Emb) {b c : Nat} (l : Loc) (h : c ≠ b) : ι.with b l c = ι c := by simp [Emb.with,h]
theorem with_le (h : ι H.size = none) (l : Loc) : ι.le (ι.with H.size l) := ⟨fun b l' hb => by
 rw [Emb.with_ne _ _ (fun e => by subst e; rw [h] at hb; simp at hb)]; exact hb,fun _ _ _ e => e⟩
theorem wrt_alloc_ne {o : AObj} {b : Nat} (h : b ≠ H.size) : wrt (H.alloc o) b = wrt H b := by simp [wrt,AHeap.get_alloc_ne _ _ (Ne.symm h)]
theorem live_alloc_ne {o : AObj} {b : Nat} (h : b ≠ H.size) : live (H.alloc o) b = live H b := by simp [live,AHeap.get_alloc_ne _ _ (Ne.symm h)]
theorem wrt_set_ne {o : AObj} {b c : Nat} (h : c ≠ b) : wrt (H.set c o) b = wrt H b := by simp [wrt,AHeap.get_set_ne _ _ h]
theorem live_set_ne {o : AObj} {b c : Nat} (h : c ≠ b) : live (H.set c o) b = live H b := by simp [live,AHeap.get_set_ne _ _ h]
theorem heap_alloc_lt (w : World) (o : Obj) {k : Nat} (h : k < w.heap.size) : (w.alloc o).heap[k]? = w.heap[k]? := by
 show (w.heap.push o)[k]? = _
 rw [Array.getElem?_push,if_neg (by omega)]
theorem heap_alloc_at (w : World) (o : Obj) : (w.alloc o).heap[w.heap.size]? = some o := by
 show (w.heap.push o)[w.heap.size]? = _
 simp
theorem size_alloc' (w : World) (o : Obj) : (w.alloc o).heap.size = w.heap.size + 1 := by show (w.heap.push o).size = _; simp

theorem Rel.immlt (h : Rel E ι H w) {B o : Nat} {v : Value} (hi : ι.imm B o v) : B < w.heap.size := by
 obtain ⟨_,C,ty,fz,v',h1,_⟩ := h.imm B o v hi
 exact getElem?_lt h1
theorem Rel.allocAt (h : Rel E ι H w) (hfree : ι H.size = none) {base : Nat} {cs : List Value} {wr : Bool} {sz : Nat} {C : Array Value} {ty : TypeId} {fz : Nat × Nat}
  (hc : CellsAt ι C base cs) (hl : base + cs.length ≤ C.size) (hf : wr = true → Unfrozen fz C.size) (hf0 : sz = 0 → fz = (0,0)) :
  Rel E (ι.with H.size ⟨w.heap.size,base,sz,C.size⟩) (H.alloc (.cells cs wr sz)) (w.alloc (.cells C ty fz)) ∧
  Step ι H w (ι.with H.size ⟨w.heap.size,base,sz,C.size⟩) (H.alloc (.cells cs wr sz)) (w.alloc (.cells C ty fz)) := by
 have hle := with_le hfree ⟨w.heap.size,base,sz,C.size⟩
 refine ⟨⟨?_,?_,?_,?_,?_,?_,?_,?_⟩,⟨hle,?_,by simp [AHeap.size_alloc],?_,?_,?_,rfl,rfl,rfl,by rw [size_alloc']; omega,fun B hB _ => heap_alloc_lt _ _ hB,?_,fun _ _ _ h => .inl h⟩⟩
 ·intro b l hb
  rw [size_alloc']
  by_cases e : b = H.size
  ·subst e; rw [Emb.with_same] at hb; simp at hb; subst hb; simp
  ·rw [Emb.with_ne _ _ e] at hb; have := h.dom _ _ hb; omega
 ·intro b l cs' wr' sz' hb hg
  by_cases e : b = H.size
  ·subst e
   rw [Emb.with_same] at hb; simp at hb; subst hb
   rw [AHeap.get_alloc_same] at hg; simp at hg; obtain ⟨rfl,rfl,rfl⟩ := hg
   exact ⟨C,ty,fz,heap_alloc_at _ _,rfl,rfl,by simpa using hl,hc.mono hle,hf,hf0⟩
  ·rw [Emb.with_ne _ _ e] at hb
   rw [AHeap.get_alloc_ne _ _ (Ne.symm e)] at hg
   obtain ⟨C',ty',fz',h1,h2,h3,h4,h5,h6,h7⟩ := h.cells _ _ _ _ _ hb hg
   exact ⟨C',ty',fz',by rw [heap_alloc_lt _ _ (h.dom _ _ hb)]; exact h1,h2,h3,h4,h5.mono hle,h6,h7⟩
 ·intro b l es clk hb hg
  by_cases e : b = H.size
  ·subst e; rw [AHeap.get_alloc_same] at hg; simp at hg
  ·rw [Emb.with_ne _ _ e] at hb
   rw [AHeap.get_alloc_ne _ _ (Ne.symm e)] at hg
   obtain ⟨es',h1,h2⟩ := h.maps _ _ _ _ hb hg
   exact ⟨es',by rw [heap_alloc_lt _ _ (h.dom _ _ hb)]; exact h1,h2.mono hle⟩
 ·intro b b' l l' hb hb' hne hw hv
  by_cases e : b = H.size
  ·subst e
   rw [Emb.with_same] at hb; simp at hb; subst hb
   rw [Emb.with_ne _ _ (Ne.symm hne)] at hb'
   have := h.dom _ _ hb'
   simp; omega
  ·rw [Emb.with_ne _ _ e] at hb
   rw [wrt_alloc_ne e] at hw
   by_cases e' : b' = H.size
   ·subst e'
    rw [Emb.with_same] at hb'; simp at hb'; subst hb'
    have := h.dom _ _ hb
    simp; omega
   ·rw [Emb.with_ne _ _ e'] at hb'
    rw [live_alloc_ne e'] at hv
    exact h.inj _ _ _ _ hb hb' hne hw hv
 ·intro g hg
  obtain ⟨l,h1,h2,h3⟩ := h.glob g hg
  exact ⟨l,hle _ _ h1,h2,h3⟩
 ·exact h.base.mono hle
 ·intro B o v hi
  obtain ⟨h0,C',ty',fz',v',h1,h2,h3⟩ := h.imm B o v hi
  exact ⟨h0,C',ty',fz',v',by rw [heap_alloc_lt _ _ (h.immlt hi)]; exact h1,h2,h3.mono hle⟩
 ·intro b l B o v hb hw hi hB
  have := h.immlt hi
  by_cases e : b = H.size
  ·subst e; rw [Emb.with_same] at hb; simp at hb; subst hb; simp at hB; omega
  ·rw [Emb.with_ne _ _ e] at hb; rw [wrt_alloc_ne e] at hw; exact h.immw b l B o v hb hw hi hB
 ·intro b l hb hn
  by_cases e : b = H.size
  ·rw [AHeap.size_alloc]; omega
  ·rw [Emb.with_ne _ _ e,hn] at hb; simp at hb
 ·intro b l hb hw
  by_cases e : b = H.size
  ·subst e; rw [Emb.with_same] at hb; simp at hb; subst hb; left; simp
  ·rw [Emb.with_ne _ _ e] at hb; rw [wrt_alloc_ne e] at hw; exact .inr ⟨b,l,hb,rfl,hw⟩
 ·intro b l hb hn
  by_cases e : b = H.size
  ·subst e; rw [Emb.with_same] at hb; simp at hb; subst hb; left; simp
  ·rw [Emb.with_ne _ _ e,hn] at hb; simp at hb
 ·intro b hb hl
  rw [live_alloc_ne (by omega)] at hl; exact hl
 ·intro b hb _
  exact AHeap.get_alloc_ne _ _ (by omega)
theorem Rel.alloc (h : Rel E ι H w) (hfree : ι H.size = none) {cs : List Value} {wr : Bool} {sz : Nat} {C : Array Value} {ty : TypeId} {fz : Nat × Nat}
  (hc : CellsAt ι C 0 cs) (hl : cs.length ≤ C.size) (hf : wr = true → Unfrozen fz C.size) (hf0 : sz = 0 → fz = (0,0)) :
  Rel E (ι.with H.size ⟨w.heap.size,0,sz,C.size⟩) (H.alloc (.cells cs wr sz)) (w.alloc (.cells C ty fz)) ∧
  Step ι H w (ι.with H.size ⟨w.heap.size,0,sz,C.size⟩) (H.alloc (.cells cs wr sz)) (w.alloc (.cells C ty fz)) :=
 h.allocAt hfree hc (by rw [Nat.zero_add]; exact hl) hf hf0

theorem Rel.more (h : Rel E ι H w) (O : Obj) : Rel E ι H (w.alloc O) ∧ Step ι H w ι H (w.alloc O) := by
 refine ⟨⟨fun b l hb => by have := h.dom b l hb; rw [size_alloc']; omega,fun b l cs wr sz hb hg => ?_,fun b l es clk hb hg => ?_,h.inj,h.glob,h.base,fun B o v hi => ?_,h.immw⟩,
  ⟨Emb.le.refl ι,fun b l h1 h2 => (by rw [h1] at h2; cases h2),Nat.le_refl _,fun b l h1 h2 => .inr ⟨b,l,h1,rfl,h2⟩,fun b l h1 h2 => (by rw [h1] at h2; cases h2),fun _ _ h => h,rfl,rfl,rfl,by rw [size_alloc']; omega,fun B hB _ => heap_alloc_lt _ _ hB,fun _ _ _ => rfl,fun _ _ _ h => .inl h⟩⟩
 ·obtain ⟨C',ty',fz',h1,h2⟩ := h.cells _ _ _ _ _ hb hg
  exact ⟨C',ty',fz',by rw [heap_alloc_lt _ _ (h.dom _ _ hb)]; exact h1,h2⟩
 ·obtain ⟨es',h1,h2⟩ := h.maps _ _ _ _ hb hg
  exact ⟨es',by rw [heap_alloc_lt _ _ (h.dom _ _ hb)]; exact h1,h2⟩
 ·obtain ⟨h0,C',ty',fz',v',h1,h2⟩ := h.imm B o v hi
  exact ⟨h0,C',ty',fz',v',by rw [heap_alloc_lt _ _ (h.immlt hi)]; exact h1,h2⟩

def Emb.put (ι : Emb) (B o : Nat) (cs : List Value) : Emb := ⟨ι.loc,fun B' o' v => (B' = B ∧ o ≤ o' ∧ cs[o' - o]? = some v) ∨ ι.imm B' o' v⟩
theorem Emb.put_holds (ι : Emb) (B o : Nat) (cs : List Value) : (ι.put B o cs).holds B o cs := fun i v e => .inl ⟨rfl,by omega,by rw [show o + i - o = i by omega]; exact e⟩
theorem Emb.put_le (ι : Emb) (B o : Nat) (cs : List Value) : ι.le (ι.put B o cs) := ⟨fun _ _ h => h,fun B' o' v e => .inr e⟩
theorem frzL_get {ng nb : Nat} : ∀ {cs : List Value} {i : Nat} {v : Value},frzL ng nb cs = true → cs[i]? = some v → frz ng nb v = true
 | [],i,v,_,h => by simp at h
 | c :: cs,0,v,h,h' => by simp only [frzL,Bool.and_eq_true] at h; simp at h'; rw [← h']; exact h.1
 | c :: cs,i + 1,v,h,h' => by simp only [frzL,Bool.and_eq_true] at h; exact frzL_get h.2 (by simpa using h')
theorem Rel.freeze (h : Rel E ι H w) {B o : Nat} {cs : List Value} {C : Array Value} {ty : TypeId} {fz : Nat × Nat} (hB : w.heap[B]? = some (.cells C ty fz)) (hc : CellsAt ι C o cs) (hf : frzL E.ng E.nb cs = true)
  (hw : ∀ b l,ι b = some l → wrt H b = true → l.blk = B → o + cs.length ≤ l.base) :
  Rel E (ι.put B o cs) H w := by
 have hle : ι.le (ι.put B o cs) := Emb.put_le _ _ _ _
 refine ⟨h.dom,fun b l cs' wr sz hb hg => ?_,fun b l es clk hb hg => ?_,h.inj,h.glob,?_,fun B' o' v hi => ?_,fun b l B' o' v hb hwr hi hbl => ?_⟩
 ·obtain ⟨C',ty',fz',h1,h2,h3,h4,h5,h6⟩ := h.cells _ _ _ _ _ hb hg
  exact ⟨C',ty',fz',h1,h2,h3,h4,h5.mono hle,h6⟩
 ·obtain ⟨es',h1,h2⟩ := h.maps _ _ _ _ hb hg
  exact ⟨es',h1,h2.mono hle⟩
 ·exact h.base.mono hle
 ·rcases hi with ⟨rfl,k1,k2⟩ | hi
  ·obtain ⟨v',k3,k4⟩ := hc (o' - o) v k2
   exact ⟨frzL_get hf k2,C,ty,fz,v',hB,by rw [show o + (o' - o) = o' by omega] at k3; exact k3,k4.mono hle⟩
  ·obtain ⟨h0,C',ty',fz',v',h1,h2,h3⟩ := h.imm B' o' v hi
   exact ⟨h0,C',ty',fz',v',h1,h2,h3.mono hle⟩
 ·rcases hi with ⟨rfl,k1,k2⟩ | hi
  ·have := hw b l hb hwr hbl
   have : o' - o < cs.length := by
    rcases Nat.lt_or_ge (o' - o) cs.length with h | h
    ·exact h
    ·rw [List.getElem?_eq_none h] at k2; cases k2
   omega
  ·exact h.immw b l B' o' v hb hwr hi hbl

theorem Step.puts {ι' : Emb} {H' : AHeap} {w' : World} {B o : Nat} {cs : List Value} (k : Step ι H w ι' H' w') (hB : w.heap.size ≤ B ∨ ∃ b0 l0,ι b0 = some l0 ∧ l0.blk = B ∧ wrt H b0 = true) :
  Step ι H w (ι'.put B o cs) H' w' :=
 ⟨k.ext.trans (Emb.put_le _ _ _ _),k.new,k.hsz,k.own,k.place,k.liv,k.os,k.tape,k.output,k.size,k.frame,k.away,fun B' o' v hi => by
  rcases hi with ⟨rfl,_⟩ | hi
  ·exact .inr hB
  ·exact k.fresh B' o' v hi⟩
theorem Rel.frozen (h : Rel E ι H w) {cs : List Value} {C : Array Value} {ty : TypeId} {fz : Nat × Nat} (hc : CellsAt ι C 0 cs) (hf : frzL E.ng E.nb cs = true) :
  Rel E (ι.put w.heap.size 0 cs) H (w.alloc (.cells C ty fz)) ∧ Step ι H w (ι.put w.heap.size 0 cs) H (w.alloc (.cells C ty fz)) ∧ (ι.put w.heap.size 0 cs).holds w.heap.size 0 cs := by
 obtain ⟨h1,s1⟩ := h.more (.cells C ty fz)
 have h2 := h1.freeze (heap_alloc_at w _) hc hf (fun b l hb _ e => by have := h.dom b l hb; omega)
 exact ⟨h2,s1.puts (.inl (Nat.le_refl _)),Emb.put_holds _ _ _ _⟩

theorem Rel.allocMap (h : Rel E ι H w) (hfree : ι H.size = none) :
  Rel E (ι.with H.size ⟨w.heap.size,0,0,0⟩) (H.alloc (.map [] 0)) (w.alloc (.map #[] 0)) ∧
  Step ι H w (ι.with H.size ⟨w.heap.size,0,0,0⟩) (H.alloc (.map [] 0)) (w.alloc (.map #[] 0)) := by
 have hle := with_le hfree ⟨w.heap.size,0,0,0⟩
 refine ⟨⟨?_,?_,?_,?_,?_,?_,?_,?_⟩,⟨hle,?_,by simp [AHeap.size_alloc],?_,?_,?_,rfl,rfl,rfl,by rw [size_alloc']; omega,fun B hB _ => heap_alloc_lt _ _ hB,?_,fun _ _ _ h => .inl h⟩⟩
 ·intro b l hb
  rw [size_alloc']
  by_cases e : b = H.size
  ·subst e; rw [Emb.with_same] at hb; simp at hb; subst hb; simp
  ·rw [Emb.with_ne _ _ e] at hb; have := h.dom _ _ hb; omega
 ·intro b l cs' wr' sz' hb hg
  by_cases e : b = H.size
  ·subst e; rw [AHeap.get_alloc_same] at hg; simp at hg
  ·rw [Emb.with_ne _ _ e] at hb
   rw [AHeap.get_alloc_ne _ _ (Ne.symm e)] at hg
   obtain ⟨C',ty',fz',h1,h2,h3,h4,h5,h6,h7⟩ := h.cells _ _ _ _ _ hb hg
   exact ⟨C',ty',fz',by rw [heap_alloc_lt _ _ (h.dom _ _ hb)]; exact h1,h2,h3,h4,h5.mono hle,h6,h7⟩
 ·intro b l es clk hb hg
  by_cases e : b = H.size
  ·subst e
   rw [Emb.with_same] at hb; simp at hb; subst hb
   rw [AHeap.get_alloc_same] at hg; simp at hg; obtain ⟨rfl,rfl⟩ := hg
   exact ⟨#[],heap_alloc_at _ _,.nil⟩
  ·rw [Emb.with_ne _ _ e] at hb
   rw [AHeap.get_alloc_ne _ _ (Ne.symm e)] at hg
   obtain ⟨es',h1,h2⟩ := h.maps _ _ _ _ hb hg
   exact ⟨es',by rw [heap_alloc_lt _ _ (h.dom _ _ hb)]; exact h1,h2.mono hle⟩
 ·intro b b' l l' hb hb' hne hw hv
  by_cases e : b = H.size
  ·subst e
   rw [Emb.with_same] at hb; simp at hb; subst hb
   rw [Emb.with_ne _ _ (Ne.symm hne)] at hb'
   have := h.dom _ _ hb'
   simp; omega
  ·rw [Emb.with_ne _ _ e] at hb
   rw [wrt_alloc_ne e] at hw
   by_cases e' : b' = H.size
   ·subst e'
    rw [Emb.with_same] at hb'; simp at hb'; subst hb'
    have := h.dom _ _ hb
    simp; omega
   ·rw [Emb.with_ne _ _ e'] at hb'
    rw [live_alloc_ne e'] at hv
    exact h.inj _ _ _ _ hb hb' hne hw hv
 ·intro g hg
  obtain ⟨l,h1,h2,h3⟩ := h.glob g hg
  exact ⟨l,hle _ _ h1,h2,h3⟩
 ·exact h.base.mono hle
 ·intro B o v hi
  obtain ⟨h0,C',ty',fz',v',h1,h2,h3⟩ := h.imm B o v hi
  exact ⟨h0,C',ty',fz',v',by rw [heap_alloc_lt _ _ (h.immlt hi)]; exact h1,h2,h3.mono hle⟩
 ·intro b l B o v hb hw hi hB
  have := h.immlt hi
  by_cases e : b = H.size
  ·subst e; rw [Emb.with_same] at hb; simp at hb; subst hb; simp at hB; omega
  ·rw [Emb.with_ne _ _ e] at hb; rw [wrt_alloc_ne e] at hw; exact h.immw b l B o v hb hw hi hB
 ·intro b l hb hn
  by_cases e : b = H.size
  ·rw [AHeap.size_alloc]; omega
  ·rw [Emb.with_ne _ _ e,hn] at hb; simp at hb
 ·intro b l hb hw
  by_cases e : b = H.size
  ·subst e; rw [Emb.with_same] at hb; simp at hb; subst hb; left; simp
  ·rw [Emb.with_ne _ _ e] at hb; rw [wrt_alloc_ne e] at hw; exact .inr ⟨b,l,hb,rfl,hw⟩
 ·intro b l hb hn
  by_cases e : b = H.size
  ·subst e; rw [Emb.with_same] at hb; simp at hb; subst hb; left; simp
  ·rw [Emb.with_ne _ _ e,hn] at hb; simp at hb
 ·intro b hb hl
  rw [live_alloc_ne (by omega)] at hl; exact hl
 ·intro b hb _
  exact AHeap.get_alloc_ne _ _ (by omega)

theorem Rel.put (h : Rel E ι H w) {b : Nat} {l : Loc} {o : AObj} {O : Obj} (hb : ι b = some l) (hw : wrt H b = true) (ho : wrt H b = true → wrt (H.set b o) b = true → True)
  (hcells : ∀ cs wr sz,o = .cells cs wr sz → ∃ C ty fz,O = .cells C ty fz ∧ C.size = l.tot ∧ l.sz = sz ∧ l.base + cs.length ≤ l.tot ∧ CellsAt ι C l.base cs ∧ (wr = true → Unfrozen fz l.tot) ∧ (sz = 0 → fz = (0,0)))
  (hmaps : ∀ es clk,o = .map es clk → ∃ es',O = .map es' clk ∧ REs ι es es'.toList)
  (himm : ∀ o' v,ι.imm l.blk o' v → ∀ C ty fz v',w.heap[l.blk]? = some (.cells C ty fz) → C[o']? = some v' → ∃ C' ty' fz',O = .cells C' ty' fz' ∧ C'[o']? = some v') :
  Rel E ι (H.set b o) (putBlk w l.blk O) ∧ Step ι H w ι (H.set b o) (putBlk w l.blk O) := by
 have hB := h.dom _ _ hb
 have hlive : live H b = true := by unfold wrt at hw; unfold live; revert hw; cases H.get b <;> simp
 have hother : ∀ b' l',ι b' = some l' → b' ≠ b → live (H.set b o) b' = true → l.blk ≠ l'.blk := fun b' l' hb' hne hv => by
  rw [live_set_ne (Ne.symm hne)] at hv
  exact h.inj _ _ _ _ hb hb' (Ne.symm hne) hw hv
 refine ⟨⟨?_,?_,?_,?_,?_,?_,?_,?_⟩,⟨Emb.le.refl ι,fun _ _ h1 h2 => by rw [h1] at h2; simp at h2,Nat.le_refl _,?_,fun _ _ h1 h2 => by rw [h1] at h2; simp at h2,?_,rfl,rfl,rfl,by rw [putBlk_size]; omega,?_,?_,fun _ _ _ h => .inl h⟩⟩
 ·intro c l' hc; rw [putBlk_size]; exact h.dom _ _ hc
 ·intro c l' cs wr sz hc hg
  by_cases e : c = b
  ·subst e
   rw [hb] at hc; simp at hc; subst hc
   rw [AHeap.get_set_same] at hg
   obtain ⟨C,ty,fz,h1,h2⟩ := hcells _ _ _ hg
   exact ⟨C,ty,fz,by rw [putBlk_get _ _ _ hB,h1],h2⟩
  ·have hv : live (H.set b o) c = true := by unfold live; rw [hg]
   rw [AHeap.get_set_ne _ _ (Ne.symm e)] at hg
   obtain ⟨C,ty,fz,h1,h2⟩ := h.cells _ _ _ _ _ hc hg
   exact ⟨C,ty,fz,by rw [putBlk_ne _ _ _ (hother c l' hc e hv)]; exact h1,h2⟩
 ·intro c l' es clk hc hg
  by_cases e : c = b
  ·subst e
   rw [hb] at hc; simp at hc; subst hc
   rw [AHeap.get_set_same] at hg
   obtain ⟨es',h1,h2⟩ := hmaps _ _ hg
   exact ⟨es',by rw [putBlk_get _ _ _ hB,h1],h2⟩
  ·have hv : live (H.set b o) c = true := by unfold live; rw [hg]
   rw [AHeap.get_set_ne _ _ (Ne.symm e)] at hg
   obtain ⟨es',h1,h2⟩ := h.maps _ _ _ _ hc hg
   exact ⟨es',by rw [putBlk_ne _ _ _ (hother c l' hc e hv)]; exact h1,h2⟩
 ·intro c c' l1 l2 hc hc' hne hw' hv'
  have hw1 : wrt H c = true := by
   by_cases e : c = b
   ·subst e; exact hw
   ·rw [wrt_set_ne (Ne.symm e)] at hw'; exact hw'
  have hv1 : live H c' = true := by
   by_cases e : c' = b
   ·subst e; exact hlive
   ·rw [live_set_ne (Ne.symm e)] at hv'; exact hv'
  exact h.inj _ _ _ _ hc hc' hne hw1 hv1
 ·exact h.glob
 ·exact h.base
 ·intro B o' v hi
  obtain ⟨h0,C',ty',fz',v',h1,h2,h3⟩ := h.imm B o' v hi
  by_cases e : l.blk = B
  ·subst e
   obtain ⟨C2,ty2,fz2,k1,k2⟩ := himm o' v hi _ _ _ _ h1 h2
   exact ⟨h0,C2,ty2,fz2,v',by rw [putBlk_get _ _ _ hB,k1],k2,h3⟩
  ·exact ⟨h0,C',ty',fz',v',by rw [putBlk_ne _ _ _ e]; exact h1,h2,h3⟩
 ·intro c l' B o' v hc hw' hi hbl
  have hw1 : wrt H c = true := by
   by_cases e : c = b
   ·subst e; exact hw
   ·rw [wrt_set_ne (Ne.symm e)] at hw'; exact hw'
  exact h.immw c l' B o' v hc hw1 hi hbl
 ·intro c l' hc hw'
  have hw1 : wrt H c = true := by
   by_cases e : c = b
   ·subst e; exact hw
   ·rw [wrt_set_ne (Ne.symm e)] at hw'; exact hw'
  exact .inr ⟨c,l',hc,rfl,hw1⟩
 ·intro c _ hl
  by_cases e : c = b
  ·subst e; exact hlive
  ·rw [live_set_ne (Ne.symm e)] at hl; exact hl
 ·intro B hB' hno
  have : l.blk ≠ B := fun e => by have := hno b l hb e; rw [hw] at this; simp at this
  exact putBlk_ne _ _ _ this
 ·intro c hc hn
  have : b ≠ c := fun e => by subst e; rw [hb] at hn; simp at hn
  exact AHeap.get_set_ne _ _ this

theorem live_set_dead {b c : Nat} (hv : live (H.set b .dead) c = true) : c ≠ b ∧ live H c = true := by
 by_cases e : c = b
 ·subst e; simp [live,AHeap.get_set_same] at hv
 ·rw [live_set_ne (Ne.symm e)] at hv; exact ⟨e,hv⟩
theorem wrt_set_dead {b c : Nat} (hv : wrt (H.set b .dead) c = true) : c ≠ b ∧ wrt H c = true := by
 by_cases e : c = b
 ·subst e; simp [wrt,AHeap.get_set_same] at hv
 ·rw [wrt_set_ne (Ne.symm e)] at hv; exact ⟨e,hv⟩
theorem get_set_dead {b c : Nat} {o : AObj} (hv : (H.set b .dead).get c = o) (ho : o ≠ .dead) : c ≠ b ∧ H.get c = o := by
 by_cases e : c = b
 ·subst e; rw [AHeap.get_set_same] at hv; exact absurd hv.symm ho
 ·rw [AHeap.get_set_ne _ _ (Ne.symm e)] at hv; exact ⟨e,hv⟩

theorem Rel.kill (h : Rel E ι H w) {b : Nat} {l : Loc} (hb : ι b = some l) : Rel E ι (H.set b .dead) w ∧ Step ι H w ι (H.set b .dead) w := by
 refine ⟨⟨h.dom,?_,?_,?_,h.glob,h.base,h.imm,fun c l' B o v hc hw => h.immw c l' B o v hc (wrt_set_dead hw).2⟩,⟨Emb.le.refl ι,fun _ _ h1 h2 => by rw [h1] at h2; simp at h2,Nat.le_refl _,?_,fun _ _ h1 h2 => by rw [h1] at h2; simp at h2,fun _ _ hl => (live_set_dead hl).2,rfl,rfl,rfl,Nat.le_refl _,fun _ _ _ => rfl,?_,fun _ _ _ h => .inl h⟩⟩
 ·intro c l' cs wr sz hc hg
  obtain ⟨_,h2⟩ := get_set_dead hg (by simp)
  exact h.cells _ _ _ _ _ hc h2
 ·intro c l' es clk hc hg
  obtain ⟨_,h2⟩ := get_set_dead hg (by simp)
  exact h.maps _ _ _ _ hc h2
 ·intro c c' l1 l2 hc hc' hne hw hv
  exact h.inj _ _ _ _ hc hc' hne (wrt_set_dead hw).2 (live_set_dead hv).2
 ·intro c l' hc hw
  exact .inr ⟨c,l',hc,rfl,(wrt_set_dead hw).2⟩
 ·intro c _ hn
  exact AHeap.get_set_ne _ _ (fun e => by subst e; rw [hb] at hn; simp at hn)

theorem Rel.consume (h : Rel E ι H w) (hfree : ι H.size = none) {b : Nat} {l : Loc} (hb : ι b = some l) (hw : wrt H b = true) {cs : List Value} {sz base : Nat} {C : Array Value} {ty : TypeId} {fz : Nat × Nat}
  (hc : CellsAt ι C base cs) (hl : base + cs.length ≤ C.size) (hf : Unfrozen fz C.size) (hsz : sz ≠ 0) (hbase : l.base ≤ base)
  (himm : ∀ o',o' < l.base → ∀ C' ty' fz',w.heap[l.blk]? = some (.cells C' ty' fz') → C[o']? = C'[o']?) :
  Rel E (ι.with H.size ⟨l.blk,base,sz,C.size⟩) ((H.set b .dead).alloc (.cells cs true sz)) (putBlk w l.blk (.cells C ty fz)) ∧
  Step ι H w (ι.with H.size ⟨l.blk,base,sz,C.size⟩) ((H.set b .dead).alloc (.cells cs true sz)) (putBlk w l.blk (.cells C ty fz)) := by
 have hle := with_le hfree ⟨l.blk,base,sz,C.size⟩
 have hB := h.dom _ _ hb
 have hother : ∀ b' l',ι b' = some l' → b' ≠ b → live H b' = true → l.blk ≠ l'.blk := fun b' l' hb' hne hv => h.inj _ _ _ _ hb hb' (Ne.symm hne) hw hv
 have hge : ∀ c o,c ≠ H.size → (((H.set b .dead).alloc o).get c) = (H.set b .dead).get c := fun c o hc => AHeap.get_alloc_ne _ _ (by simpa [AHeap.size_set] using Ne.symm hc)
 have hgs : ∀ o,((H.set b .dead).alloc o).get H.size = o := fun o => AHeap.get_alloc_same (H.set b .dead) o
 refine ⟨⟨?_,?_,?_,?_,?_,?_,?_,?_⟩,⟨hle,?_,by simp [AHeap.size_alloc,AHeap.size_set],?_,?_,?_,rfl,rfl,rfl,by rw [putBlk_size]; omega,?_,?_,fun _ _ _ h => .inl h⟩⟩
 ·intro c l' hc'
  rw [putBlk_size]
  by_cases e : c = H.size
  ·subst e; rw [Emb.with_same] at hc'; simp at hc'; subst hc'; exact hB
  ·rw [Emb.with_ne _ _ e] at hc'; exact h.dom _ _ hc'
 ·intro c l' cs' wr' sz' hc' hg
  by_cases e : c = H.size
  ·subst e
   rw [Emb.with_same] at hc'; simp at hc'; subst hc'
   rw [hgs] at hg; simp at hg; obtain ⟨rfl,rfl,rfl⟩ := hg
   exact ⟨C,ty,fz,putBlk_get _ _ _ hB,rfl,rfl,hl,hc.mono hle,fun _ => hf,fun h0 => absurd h0 hsz⟩
  ·rw [Emb.with_ne _ _ e] at hc'
   rw [hge _ _ e] at hg
   obtain ⟨hcb,hg'⟩ := get_set_dead hg (by simp)
   obtain ⟨C',ty',fz',h1,h2,h3,h4,h5,h6,h7⟩ := h.cells _ _ _ _ _ hc' hg'
   exact ⟨C',ty',fz',by rw [putBlk_ne _ _ _ (hother _ _ hc' hcb (by simp [live,hg']))]; exact h1,h2,h3,h4,h5.mono hle,h6,h7⟩
 ·intro c l' es clk hc' hg
  by_cases e : c = H.size
  ·subst e; rw [hgs] at hg; simp at hg
  ·rw [Emb.with_ne _ _ e] at hc'
   rw [hge _ _ e] at hg
   obtain ⟨hcb,hg'⟩ := get_set_dead hg (by simp)
   obtain ⟨es',h1,h2⟩ := h.maps _ _ _ _ hc' hg'
   exact ⟨es',by rw [putBlk_ne _ _ _ (hother _ _ hc' hcb (by simp [live,hg']))]; exact h1,h2.mono hle⟩
 ·intro c c' l1 l2 hc1 hc2 hne hw1 hv2
  by_cases e : c = H.size
  ·subst e
   rw [Emb.with_same] at hc1; simp at hc1; subst hc1
   rw [Emb.with_ne _ _ (Ne.symm hne)] at hc2
   have hv : live (H.set b .dead) c' = true := by
    unfold live at hv2 ⊢; rw [hge _ _ (Ne.symm hne)] at hv2; exact hv2
   obtain ⟨h3,h4⟩ := live_set_dead hv
   exact hother _ _ hc2 h3 h4
  ·rw [Emb.with_ne _ _ e] at hc1
   have hw' : wrt (H.set b .dead) c = true := by
    unfold wrt at hw1 ⊢; rw [hge _ _ e] at hw1; exact hw1
   obtain ⟨h3,h4⟩ := wrt_set_dead hw'
   by_cases e' : c' = H.size
   ·subst e'
    rw [Emb.with_same] at hc2; simp at hc2; subst hc2
    have hlb : live H b = true := by unfold wrt at hw; unfold live; revert hw; cases H.get b <;> simp
    have := h.inj _ _ _ _ hc1 hb h3 h4 hlb
    exact this
   ·rw [Emb.with_ne _ _ e'] at hc2
    have hv : live (H.set b .dead) c' = true := by
     unfold live at hv2 ⊢; rw [hge _ _ e'] at hv2; exact hv2
    exact h.inj _ _ _ _ hc1 hc2 hne h4 (live_set_dead hv).2
 ·intro g hg
  obtain ⟨l',h1,h2,h3⟩ := h.glob g hg
  exact ⟨l',hle _ _ h1,h2,h3⟩
 ·exact h.base.mono hle
 ·intro B o' v hi
  obtain ⟨h0,C',ty',fz',v',h1,h2,h3⟩ := h.imm B o' v hi
  by_cases e : l.blk = B
  ·subst e
   have := h.immw b l _ o' v hb hw hi rfl
   exact ⟨h0,C,ty,fz,v',putBlk_get _ _ _ hB,by rw [himm o' this _ _ _ h1]; exact h2,h3.mono hle⟩
  ·exact ⟨h0,C',ty',fz',v',by rw [putBlk_ne _ _ _ e]; exact h1,h2,h3.mono hle⟩
 ·intro c l' B o' v hc' hw1 hi hbl
  by_cases e : c = H.size
  ·subst e
   rw [Emb.with_same] at hc'; simp at hc'; subst hc'
   have := h.immw b l B o' v hb hw hi hbl
   simp; omega
  ·rw [Emb.with_ne _ _ e] at hc'
   have hw' : wrt (H.set b .dead) c = true := by
    unfold wrt at hw1 ⊢; rw [hge _ _ e] at hw1; exact hw1
   exact h.immw c l' B o' v hc' (wrt_set_dead hw').2 hi hbl
 ·intro c l' hc' hn
  by_cases e : c = H.size
  ·rw [AHeap.size_alloc,AHeap.size_set]; omega
  ·rw [Emb.with_ne _ _ e,hn] at hc'; simp at hc'
 ·intro c l' hc' hw1
  by_cases e : c = H.size
  ·subst e; rw [Emb.with_same] at hc'; simp at hc'; subst hc'; exact .inr ⟨b,l,hb,rfl,hw⟩
  ·rw [Emb.with_ne _ _ e] at hc'
   have hw' : wrt (H.set b .dead) c = true := by
    unfold wrt at hw1 ⊢; rw [hge _ _ e] at hw1; exact hw1
   exact .inr ⟨c,l',hc',rfl,(wrt_set_dead hw').2⟩
 ·intro c l' hc' hn
  by_cases e : c = H.size
  ·subst e; rw [Emb.with_same] at hc'; simp at hc'; subst hc'; exact .inr ⟨b,l,hb,rfl,hw⟩
  ·rw [Emb.with_ne _ _ e,hn] at hc'; simp at hc'
 ·intro c hc' hl
  have : live (H.set b .dead) c = true := by
   unfold live at hl ⊢; rw [hge _ _ (by omega)] at hl; exact hl
  exact (live_set_dead this).2
 ·intro B hB' hno
  exact putBlk_ne _ _ _ (fun e => by have := hno b l hb e; rw [hw] at this; simp at this)
 ·intro c hc' hn
  rw [hge _ _ (by omega)]
  exact AHeap.get_set_ne _ _ (fun e => by subst e; rw [hb] at hn; simp at hn)
end

end AbsYtkhcbbpfchgemaaDoor

/-
 What the table of types says of a program's types,and of values.
-/
namespace AbsYtkhcbbpfchgemaaDoor
set_option linter.unusedVariables false
set_option linter.unusedSimpArgs false
set_option linter.unusedSectionVars false
open Go

structure TyOk (E : Env) : Prop where
 ty : ∀ t i,E.ty.get t = some i → mkTI E.P t = some i

theorem empty_bytes {s : ByteArray} (h : s.size = 0) : s = ⟨#[]⟩ := by
 cases s with | mk d => simp [ByteArray.size] at h; simp [h]
theorem zvOf_val {v : Value} {z : ZV} (h : zvOf v = some z) : z.val = v := by
 unfold zvOf at h
 split at h
 case h_3 s =>
  split at h
  ·rename_i h1
   injection h with h2
   subst h2
   rw [empty_bytes h1]; rfl
  ·injection h
 case h_9 => cases h
 all_goals (injection h with h2; subst h2; rfl)
theorem mapM_zv {l : List Value} {zs : List ZV} (h : l.mapM zvOf = some zs) : zs.map ZV.val = l := by
 induction l generalizing zs with
 | nil => simp at h; subst h; rfl
 | cons v l ih =>
  rw [List.mapM_cons] at h
  cases hv : zvOf v with
  | none => simp [hv] at h
  | some z =>
   cases hl : l.mapM zvOf with
   | none => simp [hv,hl] at h
   | some r => simp [hv,hl] at h; subst h; simp [zvOf_val hv,ih hl]

theorem isAgg_of {d : TypeDesc} {i : TI} (h : tkOf d = i.k) : i.isAgg = aggD d := by
 unfold TI.isAgg; rw [← h]; cases d <;> rfl

section
variable {E : Env} (hE : TyOk E) {t : Nat} {i : TI} (ht : E.ty.get t = some i)
include hE ht
theorem ti_parts : ∃ inf d,E.P.info? t = some inf ∧ E.P.underlying t = some d ∧ tkOf d = i.k ∧ inf.size = i.size ∧ inf.bytes = i.bytes ∧
  (∀ zs,i.zero = some zs → ∃ z,inf.zero = some z ∧ z.cells.toList = zs.map ZV.val ∧ aggV z = i.isAgg) ∧ (i.eqOk = true → E.P.stoodInHeld t = false ∧ E.P.eqGuardType E.P.depth t = false) := by
 have h := hE.ty t i ht
 unfold mkTI at h
 cases hi : E.P.info? t with
 | none => simp [hi] at h
 | some inf =>
  cases hd : E.P.underlying t with
  | none => simp [hi,hd] at h
  | some d =>
   simp [hi,hd] at h
   subst h
   refine ⟨inf,d,rfl,rfl,rfl,rfl,rfl,?_,?_⟩
   ·intro zs hz
    cases hz' : inf.zero with
    | none => simp [hz'] at hz
    | some z =>
     simp only [hz',Option.bind_some] at hz
     split at hz
     ·rename_i hav
      exact ⟨z,rfl,(mapM_zv hz).symm,hav.trans (isAgg_of rfl).symm⟩
     ·cases hz
   ·intro he; simpa using he
variable (w : World)
theorem run_sizeOf' : (Go.sizeOf t).run E.P w = .ok i.size w := by
 obtain ⟨inf,d,h1,h2,h3,h4,h5,h6,h7⟩ := ti_parts hE ht
 simp [Go.sizeOf,typeInfo,h1,h4]
theorem run_isAgg' : (isAgg t).run E.P w = .ok i.isAgg w := by
 obtain ⟨inf,d,h1,h2,h3,h4,h5,h6,h7⟩ := ti_parts hE ht
 rw [isAgg_of h3]
 simp only [isAgg,underlying,Sem.run_bind,run_program,Result.andThen_ok,h2]
 cases d <;> rfl
theorem run_und {d : TypeDesc} (hd : E.P.underlying t = some d) : (underlying t).run E.P w = .ok d w := by simp [underlying,hd]
theorem run_zero {zs : List ZV} (hz : i.zero = some zs) : ∃ z,(zeroValue t).run E.P w = .ok z w ∧ z.cells.toList = zs.map ZV.val ∧ aggV z = i.isAgg := by
 obtain ⟨inf,d,h1,h2,h3,h4,h5,h6,h7⟩ := ti_parts hE ht
 obtain ⟨z,h8,h9⟩ := h6 zs hz
 exact ⟨z,by simp [zeroValue,typeInfo,h1,h8],h9⟩
end

theorem tk_slice {d : TypeDesc} {e : Nat} (h : tkOf d = .slice e) : d = .slice e := by cases d <;> simp [tkOf] at h; subst h; rfl
theorem tk_arr {d : TypeDesc} {n e : Nat} (h : tkOf d = .arr n e) : d = .array n e := by cases d <;> simp [tkOf] at h; obtain ⟨rfl,rfl⟩ := h; rfl
theorem tk_string {d : TypeDesc} (h : tkOf d = .string) : d = .string := by cases d <;> simp [tkOf] at h; rfl
theorem tk_int {d : TypeDesc} {k : IntKind} (h : tkOf d = .int k) : d = .int k := by cases d <;> simp [tkOf] at h; subst h; rfl
theorem tk_bool {d : TypeDesc} (h : tkOf d = .bool) : d = .bool := by cases d <;> simp [tkOf] at h; rfl
theorem tk_ptr {d : TypeDesc} {e : Nat} (h : tkOf d = .ptr e) : d = .pointer e := by cases d <;> simp [tkOf] at h; subst h; rfl
theorem tk_map {d : TypeDesc} {k e : Nat} (h : tkOf d = .map k e) : d = .map k e := by cases d <;> simp [tkOf] at h; obtain ⟨rfl,rfl⟩ := h; rfl
theorem tk_struct {d : TypeDesc} {fs : List (Nat × Nat × Bool)} (h : tkOf d = .struct fs) : ∃ F, d = .struct F ∧ fs = F.toList.map fun f => (f.offset, f.type, f.name == "_") := by
 cases d <;> simp [tkOf] at h; rename_i F; exact ⟨F,rfl,h.symm⟩
theorem tk_iface {d : TypeDesc} {b : Bool} (h : tkOf d = .iface b) : ∃ ms,d = .interface ms ∧ ms.isEmpty = b := by cases d <;> simp [tkOf] at h; rename_i ms; exact ⟨ms,rfl,by simpa using h⟩
theorem tk_func {d : TypeDesc} (h : tkOf d = .func) : ∃ a b c,d = .func a b c := by cases d <;> simp [tkOf] at h; exact ⟨_,_,_,rfl⟩

theorem azeroV_sim {E : Env} (hE : TyOk E) {ι : Emb} {t : Nat} {v : Value} (h : azeroV E t = some v) (w : World) : ∃ z,(zeroValue t).run E.P w = .ok z w ∧ RV ι v z := by
 unfold azeroV at h
 split at h
 ·cases h
 rename_i i ht
 split at h
 ·cases h
 rename_i zs hzs
 obtain ⟨z,h1,h2,h3⟩ := run_zero hE ht w hzs
 refine ⟨z,h1,?_⟩
 split at h
 ·rename_i hagg
  injection h with h; subst h
  rw [hagg] at h3
  cases z <;> simp [aggV] at h3
  rename_i cs
  simp only [Value.cells] at h2
  have : cs = ⟨zs.map ZV.val⟩ := by rw [← h2]
  rw [this]
  exact .agg _ _ (RVs.zeros zs)
 ·rename_i hagg
  have hagg' : i.isAgg = false := by simpa using hagg
  rw [hagg'] at h3
  split at h
  ·injection h with h; subst h
   have : z.cells = #[z] := by cases z <;> first | rfl | simp [aggV] at h3
   rw [this] at h2
   simp at h2
   rw [h2]
   rename_i zz
   exact RV.closed zz.closed
  ·cases h

theorem azero_of {E : Env} {t : Nat} {z : List Value} (h : azero E t = some z) : ∃ i zs,E.ty.get t = some i ∧ i.zero = some zs ∧ z = zs.map ZV.val := by
 unfold azero at h
 cases hi : E.ty.get t with
 | none => simp [hi] at h
 | some i =>
  cases hz : i.zero with
  | none => simp [hi,hz] at h
  | some zs => simp [hi,hz] at h; exact ⟨i,zs,rfl,hz,h.symm⟩

section
variable {E : Env} (hE : TyOk E) {ι : Emb} {H : AHeap} {w : World} (h : Rel E ι H w)
include hE h

theorem held {B o : Nat} {cs : List Value} (hh : ι.holds B o cs) (hne : cs ≠ []) : ∃ C ty fz,w.heap[B]? = some (.cells C ty fz) ∧ CellsAt ι C o cs := by
 cases cs with
 | nil => exact absurd rfl hne
 | cons c cs =>
  obtain ⟨_,C,ty,fz,v',h1,h2,h3⟩ := h.imm B (o + 0) c (hh 0 c rfl)
  refine ⟨C,ty,fz,h1,fun i v hv => ?_⟩
  obtain ⟨_,C2,ty2,fz2,v2,k1,k2,k3⟩ := h.imm B (o + i) v (hh i v hv)
  rw [h1] at k1; injection k1 with k1; injection k1 with k1 _ _; subst k1
  exact ⟨v2,k2,k3⟩
theorem held_load {P : Program} {B o n : Nat} {cs : List Value} (hh : ι.holds B o cs) (hn : n ≤ cs.length) : ∃ vs',(loadCells ⟨B,o,none⟩ n).run P w = .ok ⟨vs'⟩ w ∧ RVs ι (cs.take n) vs' := by
 by_cases hz : n = 0
 ·subst hz; exact ⟨[],rfl,by simp; exact .nil⟩
 ·obtain ⟨C,ty,fz,h1,h2⟩ := held hE h hh (by intro e; subst e; simp at hn; omega)
  have hl : o + n ≤ C.size := by
   have hlt : n - 1 < cs.length := by omega
   obtain ⟨v',h3,_⟩ := h2 (n - 1) cs[n - 1] (by simp [hlt])
   rcases Nat.lt_or_ge (o + (n - 1)) C.size with h4 | h4
   ·omega
   ·simp [Array.getElem?_eq_none h4] at h3
  refine ⟨_,run_loadCells' h1 hl,?_⟩
  have := h2.slice (o := 0) (n := n) (by omega)
  simpa using this
theorem held_cell {B o : Nat} {cs : List Value} {v : Value} (hh : ι.holds B o cs) (hv : cs[0]? = some v) : ∃ v',w.cell? ⟨B,o,none⟩ = some v' ∧ RV ι v v' := by
 obtain ⟨_,C,ty,fz,v',h1,h2,h3⟩ := h.imm B (o + 0) v (hh 0 v hv)
 exact ⟨v',by rw [cell_of h1]; exact h2,h3⟩

theorem aload_sim {t : Nat} {x x' v : Value} (hx : RV ι x x') (hl : aload E H t x = some v) : ∃ v',(Instr.loadAt t x').run E.P w = .ok v' w ∧ RV ι v v' := by
 unfold aload at hl
 split at hl
 rotate_left
 ·rename_i cs
  cases hx with | dptr _ B o hh =>
  split at hl
  rotate_left
  ·cases hl
  rename_i i ht
  simp only [Instr.loadAt,Instr.sureAddr,loadVar,Sem.run_bind,Sem.run_pure,Result.andThen_ok,run_isAgg' hE ht]
  split at hl
  ·rename_i hagg
   split at hl
   ·rename_i hlen
    injection hl with hl; subst hl
    simp only [hagg,if_true,Sem.run_bind,run_sizeOf' hE ht,Result.andThen_ok]
    obtain ⟨vs',k1,k2⟩ := held_load (P := E.P) hE h hh hlen
    rw [k1]
    exact ⟨_,rfl,.agg _ _ k2⟩
   ·cases hl
  ·rename_i hagg
   simp only [hagg,Bool.false_eq_true,if_false]
   obtain ⟨v',h8,h9⟩ := held_cell hE h hh hl
   exact ⟨v',by simp [h8],h9⟩
 ·simp at hl
 rename_i b o
 cases hx with | ptr _ _ l hb =>
 split at hl
 rotate_left
 ·simp at hl
 rename_i cs wr sz i hg ht
 obtain ⟨C,ty,fz,h1,h2,h3,h4,h5,h6,h7⟩ := h.cells _ _ _ _ _ hb hg
 simp only [Instr.loadAt,Instr.sureAddr,loadVar,Sem.run_bind,Sem.run_pure,Result.andThen_ok,run_isAgg' hE ht]
 split at hl
 ·rename_i hagg
  split at hl
  ·rename_i hlen
   simp at hl; subst hl
   simp only [hagg,if_true,Sem.run_bind,run_sizeOf' hE ht,Result.andThen_ok]
   rw [run_loadCells' h1 (by omega)]
   refine ⟨_,rfl,?_⟩
   rw [show l.base + o = l.base + o from rfl]
   exact .agg _ _ (h5.slice hlen)
  ·simp at hl
 ·rename_i hagg
  simp only [hagg,Bool.false_eq_true,if_false]
  obtain ⟨v',h8,h9⟩ := h5 _ _ hl
  refine ⟨v',?_,h9⟩
  simp [cell_of h1,h8]
end

end AbsYtkhcbbpfchgemaaDoor
