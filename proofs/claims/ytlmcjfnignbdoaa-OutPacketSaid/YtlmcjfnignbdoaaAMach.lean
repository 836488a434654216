/-
  The abstract machine: a deterministic reading of the model's code over a heap of blocks that have names of their own. Nothing of any one program stands here.
-/
import Derived.Orders
import Derived.Below
import Derived.Scope
namespace AbsYtlmcjfnignbdoaa
set_option linter.unusedVariables false
set_option linter.unusedSimpArgs false
set_option linter.unusedSectionVars false
open Go

/-! ### a tree of what numbers name -/
inductive Tr (α : Type) where
  | lf
  | nd (o : Option α) (l r : Tr α)

namespace Tr
variable {α : Type}
def getF : Nat → Tr α → Nat → Option α
  | 0, _, _ => none
  | _ + 1, lf, _ => none
  | k + 1, nd o l r, n => cond (Nat.beq n 0) o (cond (Nat.beq (n % 2) 1) (getF k l (n / 2)) (getF k r (n / 2 - 1)))
def setF : Nat → Tr α → Nat → α → Tr α
  | 0, t, _, _ => t
  | k + 1, lf, n, a => cond (Nat.beq n 0) (nd (some a) lf lf) (cond (Nat.beq (n % 2) 1) (nd none (setF k lf (n / 2) a) lf) (nd none lf (setF k lf (n / 2 - 1) a)))
  | k + 1, nd o l r, n, a => cond (Nat.beq n 0) (nd (some a) l r) (cond (Nat.beq (n % 2) 1) (nd o (setF k l (n / 2) a) r) (nd o l (setF k r (n / 2 - 1) a)))
def get (t : Tr α) (n : Nat) : Option α := getF (n + 1) t n
def set (t : Tr α) (n : Nat) (a : α) : Tr α := setF (n + 1) t n a

theorem getF_lf (k n : Nat) : getF k (lf : Tr α) n = none := by cases k <;> rfl

theorem getF_setF_same (k : Nat) : ∀ (k' n : Nat) (t : Tr α) (a : α), n < k → n < k' → getF k' (setF k t n a) n = some a := by
  induction k with
  | zero => intro k' n t a h; omega
  | succ k ih =>
    intro k' n t a h h'
    obtain ⟨k', rfl⟩ : ∃ m, k' = m + 1 := ⟨k' - 1, by omega⟩
    cases t with
    | lf =>
      simp only [setF]
      cases h0 : Nat.beq n 0 with
      | true => simp [getF, h0]
      | false =>
        have hn : n ≠ 0 := fun e => by subst e; simp at h0
        cases h1 : Nat.beq (n % 2) 1 with
        | true => simp only [cond_true, cond_false, getF, h0, h1]; exact ih _ _ _ _ (by omega) (by omega)
        | false => simp only [cond_false, getF, h0, h1]; exact ih _ _ _ _ (by omega) (by omega)
    | nd o l r =>
      simp only [setF]
      cases h0 : Nat.beq n 0 with
      | true => simp [getF, h0]
      | false =>
        have hn : n ≠ 0 := fun e => by subst e; simp at h0
        cases h1 : Nat.beq (n % 2) 1 with
        | true => simp only [cond_true, cond_false, getF, h0, h1]; exact ih _ _ _ _ (by omega) (by omega)
        | false => simp only [cond_false, getF, h0, h1]; exact ih _ _ _ _ (by omega) (by omega)

theorem getF_setF_ne (k : Nat) : ∀ (k' n m : Nat) (t : Tr α) (a : α), n ≠ m → n < k → m < k' → getF k' (setF k t n a) m = getF k' t m := by
  induction k with
  | zero => intro k' n m t a _ h; omega
  | succ k ih =>
    intro k' n m t a hne h h'
    obtain ⟨k', rfl⟩ : ∃ m, k' = m + 1 := ⟨k' - 1, by omega⟩
    have hb : ∀ x y : Nat, Nat.beq x y = true → x = y := fun x y e => Nat.eq_of_beq_eq_true e
    have hf : ∀ x y : Nat, Nat.beq x y = false → x ≠ y := fun x y e => Nat.ne_of_beq_eq_false e
    cases t with
    | lf =>
      simp only [setF]
      cases h0 : Nat.beq n 0 with
      | true =>
        have := hb _ _ h0
        cases h2 : Nat.beq m 0 with
        | true => have := hb _ _ h2; omega
        | false => simp only [cond_true, getF, h2, cond_false]; cases Nat.beq (m % 2) 1 <;> simp [getF_lf]
      | false =>
        have := hf _ _ h0
        cases h1 : Nat.beq (n % 2) 1 with
        | true =>
          have := hb _ _ h1
          simp only [cond_true, cond_false, getF]
          cases h2 : Nat.beq m 0 with
          | true => simp
          | false =>
            have := hf _ _ h2
            cases h3 : Nat.beq (m % 2) 1 with
            | true => have := hb _ _ h3; simp only [cond_true, cond_false]; rw [ih _ _ _ _ _ (by omega) (by omega) (by omega), getF_lf]
            | false => simp [getF_lf]
        | false =>
          have := hf _ _ h1
          simp only [cond_false, getF]
          cases h2 : Nat.beq m 0 with
          | true => simp
          | false =>
            have := hf _ _ h2
            cases h3 : Nat.beq (m % 2) 1 with
            | true => simp [getF_lf]
            | false => have := hf _ _ h3; simp only [cond_false]; rw [ih _ _ _ _ _ (by omega) (by omega) (by omega), getF_lf]
    | nd o l r =>
      simp only [setF]
      cases h0 : Nat.beq n 0 with
      | true =>
        have := hb _ _ h0
        cases h2 : Nat.beq m 0 with
        | true => have := hb _ _ h2; omega
        | false => simp only [cond_true, getF, h2, cond_false]
      | false =>
        have := hf _ _ h0
        cases h1 : Nat.beq (n % 2) 1 with
        | true =>
          have := hb _ _ h1
          simp only [cond_true, cond_false, getF]
          cases h2 : Nat.beq m 0 with
          | true => simp
          | false =>
            have := hf _ _ h2
            cases h3 : Nat.beq (m % 2) 1 with
            | true => have := hb _ _ h3; simp only [cond_true, cond_false]; rw [ih _ _ _ _ _ (by omega) (by omega) (by omega)]
            | false => simp
        | false =>
          have := hf _ _ h1
          simp only [cond_false, getF]
          cases h2 : Nat.beq m 0 with
          | true => simp
          | false =>
            have := hf _ _ h2
            cases h3 : Nat.beq (m % 2) 1 with
            | true => simp
            | false => have := hf _ _ h3; simp only [cond_false]; rw [ih _ _ _ _ _ (by omega) (by omega) (by omega)]

theorem get_set_same (t : Tr α) (n : Nat) (a : α) : (t.set n a).get n = some a := getF_setF_same _ _ _ _ _ (by omega) (by omega)
theorem get_set_ne (t : Tr α) {n m : Nat} (a : α) (h : n ≠ m) : (t.set n a).get m = t.get m := getF_setF_ne _ _ _ _ _ _ h (by omega) (by omega)
end Tr

/-! ### the heap -/
inductive AObj where
  | dead
  /-- values, may they be written, and, of what a slice may lie in, how many cells an element has (else 0) -/
  | cells (cs : List Value) (wr : Bool) (sz : Nat)
  | map (es : List MapEntry) (clock : Nat)
  deriving Inhabited

structure AHeap where
  tr : Tr AObj
  size : Nat

namespace AHeap
def empty : AHeap := ⟨.lf, 0⟩
def get (H : AHeap) (b : Nat) : AObj := (H.tr.get b).getD .dead
def set (H : AHeap) (b : Nat) (o : AObj) : AHeap := ⟨H.tr.set b o, H.size⟩
def alloc (H : AHeap) (o : AObj) : AHeap := ⟨H.tr.set H.size o, H.size + 1⟩
theorem get_set_same (H : AHeap) (b : Nat) (o : AObj) : (H.set b o).get b = o := by simp [get, set, Tr.get_set_same]
theorem get_set_ne (H : AHeap) {b c : Nat} (o : AObj) (h : b ≠ c) : (H.set b o).get c = H.get c := by simp [get, set, Tr.get_set_ne _ _ h]
theorem get_alloc_same (H : AHeap) (o : AObj) : (H.alloc o).get H.size = o := by simp [get, alloc, Tr.get_set_same]
theorem get_alloc_ne (H : AHeap) {c : Nat} (o : AObj) (h : H.size ≠ c) : (H.alloc o).get c = H.get c := by simp [get, alloc, Tr.get_set_ne _ _ h]
theorem size_set (H : AHeap) (b : Nat) (o : AObj) : (H.set b o).size = H.size := rfl
theorem size_alloc (H : AHeap) (o : AObj) : (H.alloc o).size = H.size + 1 := rfl
end AHeap

/-! ### types -/
inductive ZV where
  | bool (b : Bool) | int (k : IntKind) (n : Int) | str | ptr | slice | map | func | iface
  deriving DecidableEq
def ZV.val : ZV → Value
  | .bool b => .bool b | .int k n => .int k n | .str => .string ⟨#[]⟩ | .ptr => .pointer none | .slice => .slice none 0 0 | .map => .map none | .func => .nilFunc | .iface => .nilIface
def zvOf : Value → Option ZV
  | .bool b => some (.bool b) | .int k n => some (.int k n) | .string s => if s.size = 0 then some .str else none
  | .pointer none => some .ptr | .slice none 0 0 => some .slice | .map none => some .map | .nilFunc => some .func | .nilIface => some .iface
  | _ => none

inductive TK where
  | bool | int (k : IntKind) | string | ptr (e : Nat) | slice (e : Nat) | arr (n e : Nat) | map (k e : Nat)
  /-- of each field: where it begins, its type, is its name the blank one -/
  | struct (fs : List (Nat × Nat × Bool))
  | iface (bare : Bool) | func | other
  deriving DecidableEq
structure TI where
  k : TK
  size : Nat
  bytes : Nat
  zero : Option (List ZV)
  eqOk : Bool
  deriving DecidableEq
def tkOf : TypeDesc → TK
  | .bool => .bool | .int k => .int k | .string => .string | .pointer e => .ptr e | .slice e => .slice e | .array n e => .arr n e | .map k e => .map k e
  | .struct fs => .struct (fs.toList.map fun f => (f.offset, f.type, f.name == "_"))
  | .interface ms => .iface ms.isEmpty | .func .. => .func | _ => .other
def aggD : TypeDesc → Bool
  | .struct _ | .array _ _ => true
  | _ => false
def aggV : Value → Bool
  | .agg _ => true
  | _ => false
def mkTI (P : Program) (t : Nat) : Option TI :=
  match P.info? t, P.underlying t with
  | some i, some d => some ⟨tkOf d, i.size, i.bytes, i.zero.bind (fun z => if aggV z = aggD d then z.cells.toList.mapM zvOf else none), !P.stoodInHeld t && !P.eqGuardType P.depth t⟩
  | _, _ => none
def TK.isInt : TK → Bool
  | .int _ => true
  | _ => false
def TI.isAgg (i : TI) : Bool := match i.k with | .struct _ | .arr .. => true | _ => false

abbrev Spec := List Value → AHeap → Option (Value × AHeap)
structure Env where
  P : Program
  ty : Tr TI
  fn : Tr Func
  sp : Nat → Option Spec
  ng : Nat

/-! ### values -/
def vcells : Value → List Value
  | .agg cs => cs.toList
  | v => [v]
def oneCell : Value → Bool
  | .agg _ | .tuple _ => false
  | _ => true
def aev (A : List Value) : Operand → Value
  | .tmp t => A.getD t undef
  | .const v => v
  | .global g => .pointer (some ⟨g, 0, none⟩)
  | .func f => .func (.func f) #[] #[]

def abits (k : IntKind) (r : BitVec k.bits) : Value := .int k (k.wrap r.toNat)
def aint (op : BinOp) (k : IntKind) (a b : Int) : Option Value :=
  match op with
  | .add => some (.int k (k.wrap (a + b)))
  | .sub => some (.int k (k.wrap (a - b)))
  | .mul => some (.int k (k.wrap (a * b)))
  | .quo => if b = 0 then none else some (.int k (k.wrap (a.tdiv b)))
  | .rem => if b = 0 then none else some (.int k (a.tmod b))
  | .and => some (abits k (BitVec.ofInt k.bits a &&& BitVec.ofInt k.bits b))
  | .or => some (abits k (BitVec.ofInt k.bits a ||| BitVec.ofInt k.bits b))
  | .xor => some (abits k (BitVec.ofInt k.bits a ^^^ BitVec.ofInt k.bits b))
  | .andNot => some (abits k (BitVec.ofInt k.bits a &&& ~~~ BitVec.ofInt k.bits b))
  | .eql => some (.bool (a == b))
  | .neq => some (.bool (a != b))
  | .lss => some (.bool (a < b))
  | .leq => some (.bool (a ≤ b))
  | .gtr => some (.bool (a > b))
  | .geq => some (.bool (a ≥ b))
  | _ => none
def ashift (left : Bool) (k : IntKind) (a b : Int) : Option Value :=
  if b < 0 then none else
  if left then some (.int k (k.wrap (a * 2 ^ (min b.toNat k.bits)))) else some (.int k (a.fdiv (2 ^ (min b.toNat k.bits))))
def astr (op : BinOp) (a b : ByteArray) : Option Value :=
  match op with
  | .add => if a.size + b.size ≤ 9223372036854775807 then some (.string (a ++ b)) else none
  | .eql => some (.bool (a.toList == b.toList))
  | .neq => some (.bool (!(a.toList == b.toList)))
  | .lss => some (.bool (Op.bytesLess a.toList b.toList))
  | .leq => some (.bool (Op.bytesLess a.toList b.toList || a.toList == b.toList))
  | .gtr => some (.bool (!(Op.bytesLess a.toList b.toList || a.toList == b.toList)))
  | .geq => some (.bool (!(Op.bytesLess a.toList b.toList)))
  | _ => none

/-- a part of a struct or an array -/
def apart (E : Env) (t : Nat) (cs : List Value) (off : Nat) : Option Value :=
  match E.ty.get t with
  | none => none
  | some i => if i.isAgg then (if off + i.size ≤ cs.length then some (.agg ((cs.drop off).take i.size).toArray) else none) else cs[off]?

mutual
def aeq (E : Env) (H : AHeap) : Nat → Nat → Value → Value → Option Bool
  | 0, _, _, _ => none
  | d + 1, t, x, y =>
    match E.ty.get t with
    | none => none
    | some i =>
      match i.k, x, y with
      | .bool, .bool a, .bool b => some (a == b)
      | .int _, .int k a, .int k' b => if k = k' then some (a == b) else none
      | .string, .string a, .string b => some (a == b)
      | .ptr _, .pointer none, .pointer b => some b.isNone
      | .ptr _, .pointer (some _), .pointer none => some false
      | .ptr e, .pointer (some ⟨a, o, none⟩), .pointer (some ⟨b, p, none⟩) =>
        match E.ty.get e with
        | none => none
        | some j =>
          if j.size = 0 then none else
          if a = b then some (o == p) else
          match H.get a, H.get b with
          | .cells _ true 0, .cells _ true 0 => some false
          | _, _ => none
      | .iface _, .nilIface, .nilIface => some true
      | .iface _, .nilIface, .iface _ _ => some false
      | .iface _, .iface _ _, .nilIface => some false
      | .struct fs, .agg xs, .agg ys => if i.eqOk then aeqs E .empty d fs xs.toList ys.toList else none
      | .slice _, .slice none _ _, .slice b _ _ => some b.isNone
      | .slice _, .slice (some _) _ _, .slice none _ _ => some false
      | .map _ _, .map none, .map b => some b.isNone
      | .map _ _, .map (some _), .map none => some false
      | .func, .nilFunc, .nilFunc => some true
      | .func, .nilFunc, .func _ _ _ => some false
      | .func, .func _ _ _, .nilFunc => some false
      | _, _, _ => none
def aeqs (E : Env) (H : AHeap) : Nat → List (Nat × Nat × Bool) → List Value → List Value → Option Bool
  | _, [], _, _ => some true
  | 0, _, _, _ => none
  | d + 1, (off, t, blank) :: fs, xs, ys =>
    if blank then aeqs E H d fs xs ys else
    match apart E t xs off, apart E t ys off with
    | some x, some y =>
      match aeq E H d t x y with
      | some true => aeqs E H d fs xs ys
      | some false => some false
      | none => none
    | _, _ => none
end

def isConst : Operand → Bool
  | .const _ => true
  | _ => false

def nonNum : Value → Bool
  | .int .. | .float .. | .complex .. | .string _ => false
  | _ => true
/-- may two nil interface values, or two structs, be asked whether they are one -/
def eqAsk (E : Env) (t : Nat) (cs : Bool) (x y : Value) : Bool :=
  match x, y with
  | .nilIface, .nilIface => cs
  | .agg _, .agg _ => match E.ty.get t with
    | some i => i.eqOk
    | none => false
  | _, _ => true
def abin (E : Env) (H : AHeap) (op : BinOp) (t : Nat) (cs : Bool) (x y : Value) : Option Value :=
  match x, y with
  | .int k a, .int k' b =>
    match op with
    | .shl => ashift true k a b
    | .shr => ashift false k a b
    | _ => if k = k' then aint op k a b else none
  | .string a, .string b => astr op a b
  | x, y =>
    if nonNum x && nonNum y && eqAsk E t cs x y then
      match op with
      | .eql => (aeq E H 64 t x y).map .bool
      | .neq => (aeq E H 64 t x y).map fun b => .bool (!b)
      | _ => none
    else none

def aun (op : UnOp) (x : Value) : Option Value :=
  match op, x with
  | .neg, .int k n => some (.int k (k.wrap (0 - n)))
  | .xor, .int k n => some (abits k (BitVec.ofInt k.bits (if k.signed then -1 else k.max) ^^^ BitVec.ofInt k.bits n))
  | .not, .bool b => some (.bool !b)
  | _, _ => none

/-! ### memory -/
def aload (E : Env) (H : AHeap) (t : Nat) (x : Value) : Option Value :=
  match x with
  | .pointer (some ⟨b, o, none⟩) =>
    match H.get b, E.ty.get t with
    | .cells cs _ _, some i =>
      if i.isAgg then (if o + i.size ≤ cs.length then some (.agg ((cs.drop o).take i.size).toArray) else none) else cs[o]?
    | _, _ => none
  | _ => none

def splice (cs : List Value) (o : Nat) (xs : List Value) : List Value := cs.take o ++ xs ++ cs.drop (o + xs.length)

def astoreAt (H : AHeap) (b o : Nat) (xs : List Value) : Option AHeap :=
  match H.get b with
  | .cells cs true sz => if xs.all oneCell && decide (o + xs.length ≤ cs.length) then some (H.set b (.cells (splice cs o xs) true sz)) else none
  | _ => none

def astore (E : Env) (H : AHeap) (t : Nat) (x v : Value) : Option AHeap :=
  match x, E.ty.get t with
  | .pointer (some ⟨b, o, none⟩), some i => if (vcells v).length = i.size then astoreAt H b o (vcells v) else none
  | _, _ => none

def azero (E : Env) (t : Nat) : Option (List Value) := (E.ty.get t).bind fun i => i.zero.map (·.map ZV.val)

def azeroV (E : Env) (t : Nat) : Option Value :=
  match E.ty.get t with
  | none => none
  | some i => match i.zero with
    | none => none
    | some zs => if i.isAgg then some (.agg (zs.map ZV.val).toArray) else match zs with
      | [z] => some z.val
      | _ => none

def lfill (place : Nat → Option (Nat × Nat)) (cs : List Value) : List (Nat × Value) → Option (List Value)
  | [] => some cs
  | (i, v) :: rest =>
    match place i with
    | none => none
    | some (off, size) => if (vcells v).length = size && decide (off + size ≤ cs.length) then lfill place (splice cs off (vcells v)) rest else none

def fieldPlaces (E : Env) : List (Nat × Nat × Bool) → Option (List (Nat × Nat))
  | [] => some []
  | (off, t, _) :: fs => match E.ty.get t, fieldPlaces E fs with
    | some i, some r => some ((off, i.size) :: r)
    | _, _ => none

def abuild (E : Env) (t : Nat) (parts : List (Nat × Value)) : Option Value :=
  match E.ty.get t, azero E t with
  | some i, some z =>
    match i.k with
    | .struct fs => match fieldPlaces E fs with
      | some pl => (lfill (fun k => pl[k]?) z parts).map fun cs => .agg cs.toArray
      | none => none
    | .arr _ e => match E.ty.get e with
      | some j => (lfill (fun k => some (k * j.size, j.size)) z parts).map fun cs => .agg cs.toArray
      | none => none
    | _ => none
  | _, _ => none

/-- n times over -/
def reps (z : List Value) : Nat → List Value
  | 0 => []
  | n + 1 => z ++ reps z n

def abuildSlice (E : Env) (H : AHeap) (t len : Nat) (parts : List (Nat × Value)) : Option (Value × AHeap) :=
  match E.ty.get t with
  | some ⟨.slice e, _, _, _, _⟩ =>
    match E.ty.get e, azero E e with
    | some j, some z =>
      if j.size = 0 || z.length != j.size || decide (len * j.size > 16777216) then none else
      (lfill (fun k => some (k * j.size, j.size)) (reps z len) parts).map fun cs =>
        (.slice (some ⟨H.size, 0, some 1⟩) len len, H.alloc (.cells cs true j.size))
    | _, _ => none
  | _ => none

def afieldAddr (E : Env) (s : Nat) (x : Value) (f : Nat) : Option Value :=
  match E.ty.get s, x with
  | some ⟨.struct fs, _, _, _, _⟩, .pointer (some ⟨b, o, none⟩) =>
    match fs[f]? with
    | some (off, t, _) => match E.ty.get t with
      | some j => if j.size = 0 then none else some (.pointer (some ⟨b, o + off, none⟩))
      | none => none
    | none => none
  | _, _ => none

def afield (E : Env) (s : Nat) (x : Value) (f : Nat) : Option Value :=
  match E.ty.get s, x with
  | some ⟨.struct fs, _, _, _, _⟩, .agg cs => match fs[f]? with
    | some (off, t, _) => apart E t cs.toList off
    | none => none
  | _, _ => none

def aindexAddr (E : Env) (t : Nat) (x ix : Value) : Option Value :=
  match E.ty.get t, ix with
  | some i, .int _ n =>
    match i.k, x with
    | .slice e, .slice (some ⟨b, o, _⟩) len _ => match E.ty.get e with
      | some j => if 0 ≤ n ∧ n < len then some (.pointer (some ⟨b, o + n.toNat * j.size, none⟩)) else none
      | none => none
    | .arr len e, .pointer (some ⟨b, o, none⟩) => match E.ty.get e with
      | some j => if 0 ≤ n ∧ n < len then some (.pointer (some ⟨b, o + n.toNat * j.size, none⟩)) else none
      | none => none
    | _, _ => none
  | _, _ => none

def aindex (E : Env) (t : Nat) (x ix : Value) : Option Value :=
  match E.ty.get t, ix with
  | some i, .int _ n =>
    match i.k, x with
    | .string, .string s => if 0 ≤ n then (s[n.toNat]?).map fun b => .int .u8 b.toNat else none
    | .arr len e, .agg cs => match E.ty.get e with
      | some j => if 0 ≤ n ∧ n < len then apart E e cs.toList (n.toNat * j.size) else none
      | none => none
    | _, _ => none
  | _, _ => none

/-- a bound that is given, or another; at most so much -/
def abound (v : Option Value) (other most : Nat) : Option Nat :=
  match v with
  | none => some other
  | some (.int _ n) => if 0 ≤ n ∧ n ≤ most then some n.toNat else none
  | some _ => none

def szOk (H : AHeap) (b n : Nat) : Bool :=
  match H.get b with
  | .cells _ _ sz => Nat.beq sz 0 || Nat.beq sz n
  | _ => false
def aslice (E : Env) (H : AHeap) (t : Nat) (x : Value) (lo hi mx : Option Value) : Option Value :=
  match E.ty.get t with
  | none => none
  | some i =>
    match i.k, x with
    | .string, .string s =>
      if mx.isSome then none else
      match abound hi s.size s.size with
      | some h => match abound lo 0 h with
        | some l => some (.string (s.extract l h))
        | none => none
      | none => none
    | .slice e, .slice (some ⟨b, o, ex⟩) len c =>
      match E.ty.get e with
      | none => none
      | some j =>
        if (mx.isSome && hi.isNone) || !szOk H b j.size then none else
        match abound mx c c with
        | none => none
        | some m => match abound hi len m with
          | none => none
          | some h => match abound lo 0 h with
            | none => none
            | some l => some (.slice (some ⟨b, o + l * j.size, if mx.isSome then some 1 else ex⟩) (h - l) (m - l))
    | .slice e, .slice none 0 0 =>
      match E.ty.get e with
      | none => none
      | some _ =>
        if mx.isSome && hi.isNone then none else
        match abound mx 0 0 with
        | none => none
        | some m => match abound hi 0 m with
          | none => none
          | some h => match abound lo 0 h with
            | none => none
            | some _ => some (.slice none 0 0)
    | .arr n e, .pointer (some ⟨b, o, none⟩) =>
      match E.ty.get e with
      | none => none
      | some j =>
        if mx.isSome || !szOk H b 0 then none else
        match abound hi n n with
        | none => none
        | some h => match abound lo 0 h with
          | none => none
          | some l => some (.slice (some ⟨b, o + l * j.size, some 1⟩) (h - l) (n - l))
    | _, _ => none

def amakeSlice (E : Env) (H : AHeap) (t : Nat) (len cap : Value) : Option (Value × AHeap) :=
  match E.ty.get t, len, cap with
  | some ⟨.slice e, _, _, _, _⟩, .int _ l, .int _ c =>
    match E.ty.get e, azero E e with
    | some j, some z =>
      if 0 ≤ l ∧ l ≤ c ∧ c ≤ 9223372036854775807 ∧ j.bytes * c ≤ 281474976710656 ∧ j.size ≠ 0 ∧ z.length = j.size then
        some (.slice (some ⟨H.size, 0, some 1⟩) l.toNat c.toNat, H.alloc (.cells (reps z c.toNat) true j.size))
      else none
    | _, _ => none
  | _, _, _ => none

/-! ### maps -/
def keyKind (E : Env) (kt : Nat) (k : Value) : Option TypeDesc :=
  match E.ty.get kt, k with
  | some ⟨.int q, _, _, _, _⟩, .int _ _ => some (.int q)
  | some ⟨.string, _, _, _, _⟩, .string _ => some .string
  | _, _ => none

def luRes (ok : Bool) (v : Value) (is : Bool) : Value := if ok then .tuple #[v, .bool is] else v
def alookup (E : Env) (H : AHeap) (t : Nat) (m k : Value) (ok : Bool) : Option Value :=
  match E.ty.get t with
  | some ⟨.map kt et, _, _, _, _⟩ =>
    match keyKind E kt k, azeroV E et with
    | some d, some zv =>
      match m with
      | .map none => some (luRes ok zv false)
      | .map (some r) => match H.get r with
        | .map es _ => match Instr.findNow d k es 0 with
          | some (some (_, v)) => some (luRes ok v true)
          | some none => some (luRes ok zv false)
          | none => none
        | _ => none
      | _ => none
    | _, _ => none
  | _ => none

def amapUpdate (E : Env) (H : AHeap) (t : Nat) (m k v : Value) : Option AHeap :=
  match E.ty.get t, m with
  | some ⟨.map kt _, _, _, _, _⟩, .map (some r) =>
    match keyKind E kt k, H.get r with
    | some d, .map es clock => match Instr.findNow d k es 0 with
      | some (some (i, _)) => some (H.set r (.map (es.modify i fun e => { e with key := k, val := v }) clock))
      | some none => some (H.set r (.map (es ++ [{ key := k, val := v, born := clock }]) (clock + 1)))
      | none => none
    | _, _ => none
  | _, _ => none

def adelete (E : Env) (H : AHeap) (t : Nat) (m k : Value) : Option AHeap :=
  match E.ty.get t with
  | some ⟨.map kt _, _, _, _, _⟩ =>
    match keyKind E kt k, m with
    | some _, .map none => some H
    | some d, .map (some r) => match H.get r with
      | .map es clock => match Instr.findNow d k es 0 with
        | some (some (i, _)) => some (H.set r (.map (es.eraseIdx i) clock))
        | some none => some H
        | none => none
      | _ => none
    | _, _ => none
  | _ => none

/-! ### builtin functions -/
def takeCells (H : AHeap) (b o n : Nat) : Option (List Value) :=
  match H.get b with
  | .cells cs _ _ => if o + n ≤ cs.length then some ((cs.drop o).take n) else none
  | _ => none

def srcCells (H : AHeap) (size : Nat) : Value → Option (Nat × List Value)
  | .slice none 0 0 => some (0, [])
  | .slice (some ⟨b, o, _⟩) n _ => (takeCells H b o (n * size)).map fun l => (n, l)
  | .string s => if size = 1 then some (s.size, s.data.toList.map fun b => .int .u8 b.toNat) else none
  | _ => none

def aappend (E : Env) (H : AHeap) (ts : List Nat) (args : List Value) : Option (Value × AHeap) :=
  match ts, args with
  | [t, u], [s, x] =>
    match E.ty.get t, E.ty.get u with
    | some ⟨.slice e, _, _, _, _⟩, some iu =>
      match E.ty.get e, azero E e with
      | some j, some z =>
        if j.size = 0 || j.bytes = 0 || z.length != j.size || iu.k.isInt then none else
        match srcCells H j.size x with
        | none => none
        | some (k, new) =>
          match s with
          | .slice none 0 0 =>
            if k = 0 then some (.slice none 0 0, H)
            else if decide (k * j.bytes ≤ 140737488355328) && new.all oneCell then some (.slice (some ⟨H.size, 0, none⟩) k k, H.alloc (.cells new true j.size)) else none
          | .slice (some ⟨b, o, ex⟩) n c =>
            if n + k ≤ c then
              match H.get b with
              | .cells _ _ sz => if sz = j.size then (if k = 0 then some (s, H) else (astoreAt H b (o + n * j.size) new).map fun H' => (.slice (some ⟨b, o, ex⟩) (n + k) c, H')) else none
              | _ => none
            else if decide ((n + k) * j.bytes ≤ 140737488355328) && new.all oneCell then
              match ex with
              | some 1 => (takeCells H b o (n * j.size)).map fun old => (.slice (some ⟨H.size, 0, none⟩) (n + k) (n + k), H.alloc (.cells (old ++ new) true j.size))
              | none =>
                match H.get b with
                | .cells cs true sz =>
                  if sz = j.size ∧ o + n * j.size = cs.length then
                    some (.slice (some ⟨H.size, 0, none⟩) (n + k) (n + k), (H.set b .dead).alloc (.cells (cs.drop o ++ new) true j.size))
                  else none
                | _ => none
              | _ => none
            else none
          | _ => none
      | _, _ => none
    | _, _ => none
  | _, _ => none

def aminmaxF (mn : Bool) (k : IntKind) : Int → List Value → Option Value
  | x, [] => some (.int k x)
  | x, .int k' y :: rest => if k = k' then aminmaxF mn k (if mn then (if y < x then y else x) else (if y > x then y else x)) rest else none
  | _, _ => none
def aminmax (mn : Bool) : List Value → Option Value
  | .int k x :: rest => aminmaxF mn k x rest
  | _ => none

def abuiltin (E : Env) (H : AHeap) (b : Builtin) (ts : List Nat) (args : List Value) : Option (Value × AHeap) :=
  match b, args with
  | .len, [.string s] => match ts with
    | t :: _ => match E.ty.get t with
      | some ⟨.string, _, _, _, _⟩ => some (goInt s.size, H)
      | _ => none
    | [] => none
  | .len, [.slice _ n _] => match ts with
    | t :: _ => match E.ty.get t with
      | some ⟨.slice _, _, _, _, _⟩ => some (goInt n, H)
      | _ => none
    | [] => none
  | .len, [.map none] => match ts with
    | t :: _ => match E.ty.get t with
      | some ⟨.map .., _, _, _, _⟩ => some (goInt 0, H)
      | _ => none
    | [] => none
  | .len, [.map (some r)] => match ts with
    | t :: _ => match E.ty.get t, H.get r with
      | some ⟨.map .., _, _, _, _⟩, .map es _ => some (goInt es.length, H)
      | _, _ => none
    | [] => none
  | .append, args => aappend E H ts args
  | .min, args => (aminmax true args).map fun v => (v, H)
  | .max, args => (aminmax false args).map fun v => (v, H)
  | .delete, [m, k] => match ts with
    | t :: _ => (adelete E H t m k).map fun H' => (.tuple #[], H')
    | [] => none
  | .clear, [.slice (some ⟨b, o, _⟩) n _] => match ts with
    | t :: _ => match E.ty.get t with
      | some ⟨.slice e, _, _, _, _⟩ => match E.ty.get e, azero E e with
        | some j, some z => if j.size = 0 || z.length != j.size || n = 0 then (if n = 0 then some (.tuple #[], H) else none) else (astoreAt H b o (reps z n)).map fun H' => (.tuple #[], H')
        | _, _ => none
      | _ => none
    | [] => none
  | _, _ => none

def byteOfV : Value → Option UInt8
  | .int .u8 n => some (UInt8.ofNat n.toNat)
  | _ => none
def aconvert (E : Env) (H : AHeap) (src dst : Nat) (x : Value) : Option (Value × AHeap) :=
  match E.ty.get src, E.ty.get dst with
  | some i, some j =>
    match i.k, j.k, x with
    | _, .int k, .int _ n => some (.int k (k.wrap n), H)
    | .string, .string, .string s => some (.string s, H)
    | .string, .slice e, .string s => match E.ty.get e with
      | some ⟨.int .u8, _, _, _, _⟩ => some (.slice (some ⟨H.size, 0, none⟩) s.size s.size, H.alloc (.cells (s.data.toList.map fun b => .int .u8 b.toNat) true 1))
      | _ => none
    | .slice e, .string, .slice none _ _ => match E.ty.get e with
      | some ⟨.int .u8, _, _, _, _⟩ => some (.string .empty, H)
      | _ => none
    | .slice e, .string, .slice (some ⟨b, o, _⟩) n _ => match E.ty.get e with
      | some ⟨.int .u8, _, _, _, _⟩ => match takeCells H b o n with
        | some l => (l.mapM byteOfV).map fun bs => (.string ⟨bs.toArray⟩, H)
        | none => none
      | _ => none
    | _, _, _ => none
  | _, _ => none

/-! ### operations -/
inductive ARes where
  | val (v : Value) (H : AHeap)
  | call (f : Nat) (args : List Value)

def pairs (A : List Value) (ps : Array (Nat × Operand)) : List (Nat × Value) := ps.toList.map fun p => (p.1, aev A p.2)
def vres (H : AHeap) (o : Option Value) : Option ARes := o.map fun v => .val v H
def hres (o : Option (Value × AHeap)) : Option ARes := o.map fun p => .val p.1 p.2
def ures (o : Option AHeap) : Option ARes := o.map fun H => .val undef H

def aop (E : Env) (A : List Value) (H : AHeap) (op : Op) : Option ARes :=
  match op with
  | .move x | .assign x => some (.val (aev A x) H)
  | .pick c a b => match aev A c with
    | .bool t => some (.val (if t then aev A a else aev A b) H)
    | _ => none
  | .alloc t => match azero E t with
    | some z => some (.val (.pointer (some ⟨H.size, 0, none⟩)) (H.alloc (.cells z true 0)))
    | none => none
  | .box _ x => some (.val (.pointer (some ⟨H.size, 0, none⟩)) (H.alloc (.cells (vcells (aev A x)) true 0)))
  | .build t ps => vres H (abuild E t (pairs A ps))
  | .buildSlice t n ps => hres (abuildSlice E H t n (pairs A ps))
  | .load t x => vres H (aload E H t (aev A x))
  | .store t x y => ures (astore E H t (aev A x) (aev A y))
  | .nilCheck x => match aev A x with
    | .pointer (some a) => some (.val (.pointer (some a)) H)
    | .func (.func f) fs cs => some (.val (.func (.func f) fs cs) H)
    | _ => none
  | .binOp op t x y _ => vres H (abin E H op t (isConst x || isConst y) (aev A x) (aev A y))
  | .unOp op _ x => vres H (aun op (aev A x))
  | .convert s d x => hres (aconvert E H s d (aev A x))
  | .makeInterface t x => match E.ty.get t with
    | some i => match i.k with
      | .iface _ => none
      | _ => some (.val (.iface t (aev A x)) H)
    | none => none
  | .makeFunc (.func f) fs cs => some (.val (.func (.func f) (fs.map (aev A)) (cs.map (aev A))) H)
  | .makeMap _ none => some (.val (.map (some H.size)) (H.alloc (.map [] 0)))
  | .makeSlice t l c => hres (amakeSlice E H t (aev A l) (aev A c))
  | .slice t x lo hi mx => vres H (aslice E H t (aev A x) (lo.map (aev A)) (hi.map (aev A)) (mx.map (aev A)))
  | .fieldAddr s x f => vres H (afieldAddr E s (aev A x) f)
  | .field s x f => vres H (afield E s (aev A x) f)
  | .indexAddr t x i => vres H (aindexAddr E t (aev A x) (aev A i))
  | .index t x i => vres H (aindex E t (aev A x) (aev A i))
  | .lookup t m k ok => vres H (alookup E H t (aev A m) (aev A k) ok)
  | .mapUpdate t m k v => ures (amapUpdate E H t (aev A m) (aev A k) (aev A v))
  | .extract x i => match aev A x with
    | .tuple vs => vres H vs[i]?
    | _ => none
  | .call c => match c.callee with
    | .builtin b => hres (abuiltin E H b c.argTypes.toList (c.args.toList.map (aev A)))
    | .value f => match aev A f with
      | .func (.func g) fs cs => some (.call g (fs.toList ++ c.args.toList.map (aev A) ++ cs.toList))
      | _ => none
    | .invoke _ _ => none
  | _ => none

/-! ### regions, code, calls -/
def aput (A : List Value) (dst : Option Tmp) (v : Value) : List Value :=
  match dst with
  | some d => A.set d v
  | none => A
def ayield (all : Array Oper) (A : List Value) (j : Nat) : Option Bool :=
  match ((all[j]?).bind (·.dst)).bind (A[·]?) with
  | some (.bool b) => some b
  | _ => none

abbrev Call := Nat → List Value → AHeap → Option (Value × AHeap)

def runOp (E : Env) (call : Call) (all : Array Oper) (o : Oper) (A : List Value) (H : AHeap) : Option (List Value × AHeap) :=
  if Region.wanted o (ayield all A) then
    match aop E A H o.op with
    | none => none
    | some (.val v H') => some (aput A o.dst v, H')
    | some (.call f args) => match call f args H with
      | some (v, H') => some (aput A o.dst v, H')
      | none => none
  else some (aput A o.dst undef, H)

def runOps (E : Env) (call : Call) (all : Array Oper) : List Oper → List Value → AHeap → Option (List Value × AHeap)
  | [], A, H => some (A, H)
  | o :: rest, A, H => match runOp E call all o A H with
    | some (A', H') => runOps E call all rest A' H'
    | none => none

inductive AExit where
  | normal | exit (id : Nat) | ret

def results (E : Env) (A : List Value) (H : AHeap) : List ResultVar → Option (List Value)
  | [] => some []
  | .tmp t :: rest => (results E A H rest).map fun r => A.getD t undef :: r
  | .cell a t :: rest => match aload E H t (A.getD a undef), results E A H rest with
    | some v, some r => some (v :: r)
    | _, _ => none
def oneOf : List Value → Value
  | [v] => v
  | vs => .tuple vs.toArray

abbrev Exec := Code → List Value → AHeap → Option (AExit × List Value × AHeap)
def callF (E : Env) (ex : Exec) : Call := fun f args H =>
  match E.sp f with
  | some g => g args H
  | none => match E.fn.get f with
    | none => none
    | some fn => match fn.body with
      | none => none
      | some c => match ex c (args ++ List.replicate (fn.ntmps - args.length) undef) H with
        | some (.exit _, _, _) => none
        | some (_, A, H') => (results E A H' fn.results.toList).map fun vs => (oneOf vs, H')
        | none => none

/-! ### equality of values, as a program decides it -/
mutual
def veq : Value → Value → Bool
  | .bool a, .bool b => a == b
  | .int k a, .int l b => decide (k = l) && decide (a = b)
  | .float k a, .float l b => decide (k = l) && Nat.beq a b
  | .complex k a c, .complex l b d => decide (k = l) && Nat.beq a b && Nat.beq c d
  | .string a, .string b => decide (a.data.toList = b.data.toList)
  | .pointer a, .pointer b => decide (a = b)
  | .slice a n c, .slice b m d => decide (a = b) && Nat.beq n m && Nat.beq c d
  | .map a, .map b => decide (a = b)
  | .chan a, .chan b => decide (a = b)
  | .func f xs ys, .func g zs ws => decide (f = g) && veqA xs zs && veqA ys ws
  | .nilFunc, .nilFunc => true
  | .iface t x, .iface u y => Nat.beq t u && veq x y
  | .nilIface, .nilIface => true
  | .agg xs, .agg ys => veqA xs ys
  | .tuple xs, .tuple ys => veqA xs ys
  | _, _ => false
def veqA : Array Value → Array Value → Bool
  | ⟨xs⟩, ⟨ys⟩ => veqL xs ys
def veqL : List Value → List Value → Bool
  | [], [] => true
  | x :: xs, y :: ys => veq x y && veqL xs ys
  | _, _ => false
end
def meq (a b : MapEntry) : Bool := veq a.key b.key && veq a.val b.val && Nat.beq a.born b.born
def meqL : List MapEntry → List MapEntry → Bool
  | [], [] => true
  | x :: xs, y :: ys => meq x y && meqL xs ys
  | _, _ => false
def oeq : AObj → AObj → Bool
  | .dead, .dead => true
  | .cells xs w s, .cells ys w' s' => decide (w = w') && Nat.beq s s' && veqL xs ys
  | .map es c, .map fs d => Nat.beq c d && meqL es fs
  | _, _ => false

/-! ### a region that draws its order -/
def isM : Op → Bool
  | .store .. | .mapUpdate .. | .mapEntry .. | .entryStore .. | .insert .. => true
  | .call c => match c.callee with
    | .builtin .len | .builtin .min | .builtin .max => false
    | _ => true
  | _ => false
def isEq : BinOp → Bool
  | .eql | .neq => true
  | _ => false
def mayRead : Op → Bool
  | .load .. | .lookup .. | .convert .. | .slice .. => true
  | .binOp op .. => isEq op
  | .call c => match c.callee with
    | .builtin .len => true
    | _ => false
  | _ => false
def blkOf : Value → List Nat
  | .pointer (some a) => [a.block]
  | .slice (some a) _ _ => [a.block]
  | .map (some r) => [r]
  | _ => []
/-- the blocks that an operation looks into -/
def reads (A : List Value) : Op → List Nat
  | .load _ x => blkOf (aev A x)
  | .lookup _ m _ _ => blkOf (aev A m)
  | .convert _ _ x => blkOf (aev A x)
  | .slice _ x _ _ _ => blkOf (aev A x)
  | .binOp op _ x y _ => if isEq op then blkOf (aev A x) ++ blkOf (aev A y) else []
  | .call c => match c.callee with
    | .builtin .len => c.args.toList.flatMap fun x => blkOf (aev A x)
    | _ => []
  | _ => []
/-- does it look at no more than how many cells an element has -/
def looksWeak : Op → Bool
  | .slice .. => true
  | _ => false
def oszeq : AObj → AObj → Bool
  | .dead, .dead => true
  | .cells _ _ s, .cells _ _ s' => Nat.beq s s'
  | .map .., .map .. => true
  | _, _ => false

/-- which operations come before each, in every order, as the bits of a number -/
def edgeMask (acc : List Nat) : List Edge → Nat → Nat
  | [], s => s
  | e :: es, s => edgeMask acc es (if Region.binds .any e then s ||| 2 ^ e.on ||| acc.getD e.on 0 else s)
def befs : List Oper → List Nat → List Nat
  | [], acc => acc
  | o :: r, acc => befs r (acc ++ [edgeMask acc o.after.toList 0])
def bef (b : List Nat) (i j : Nat) : Bool := (b.getD j 0).testBit i

def floatPairs (ops : Array Oper) : List (Nat × Nat) :=
  let b := befs ops.toList []
  let l := ops.toList.zipIdx
  (l.filter fun p => mayRead p.1.op).flatMap fun p => (l.filter fun q => isM q.1.op && !bef b p.2 q.2 && !bef b q.2 p.2).map fun q => (p.2, q.2)

def runTr (E : Env) (call : Call) (all : Array Oper) : List Oper → List Value → AHeap → Option (List (List Value × AHeap))
  | [], A, H => some [(A, H)]
  | o :: rest, A, H => match runOp E call all o A H with
    | some (A', H') => (runTr E call all rest A' H').map ((A, H) :: ·)
    | none => none

def floatOk (ops : Array Oper) (tr : List (List Value × AHeap)) (p : Nat × Nat) : Bool :=
  match tr[p.1]?, ops[p.1]?, tr[p.2]?, tr[p.2 + 1]? with
  | some (A, _), some o, some (_, H), some (_, H') =>
    !Region.wanted o (ayield ops A) || (reads A o.op).all fun b => if looksWeak o.op then oszeq (H.get b) (H'.get b) else oeq (H.get b) (H'.get b)
  | _, _, _, _ => false

def runDraw (E : Env) (call : Call) (ops : Array Oper) (A : List Value) (H : AHeap) : Option (List Value × AHeap) :=
  match runTr E call ops ops.toList A H with
  | some tr => if (floatPairs ops).all (floatOk ops tr) then tr.getLast? else none
  | none => none

def exec (E : Env) : Nat → Exec
  | 0, _, _, _ => none
  | k + 1, c, A, H =>
    match c with
    | .skip => some (.normal, A, H)
    | .label _ => some (.normal, A, H)
    | .seq a b => match exec E k a A H with
      | some (.normal, A', H') => exec E k b A' H'
      | r => r
    | .cond x a b => match aev A x with
      | .bool true => exec E k a A H
      | .bool false => exec E k b A H
      | _ => none
    | .block id c => match exec E k c A H with
      | some (.exit id', A', H') => if id' = id then some (.normal, A', H') else some (.exit id', A', H')
      | r => r
    | .loop c => match exec E k c A H with
      | some (.normal, A', H') => exec E k (.loop c) A' H'
      | r => r
    | .scope c => exec E k c A H
    | .exit id => some (.exit id, A, H)
    | .ret => some (.ret, A, H)
    | .region _ ops draw =>
      (if draw then runDraw E (callF E (exec E k)) ops A H else runOps E (callF E (exec E k)) ops ops.toList A H).map fun p => (.normal, p.1, p.2)
    | _ => none

end AbsYtlmcjfnignbdoaa
