/-
  An abstract machine over the model's code, with one soundness theorem (AbsM.call_ok): part AMe.
-/
import Derived.Test.YtkhcbbpfchgemaaDoorAMd
/-
 Maps whose keys are numbers or strings,as lists of pairs.
-/
namespace AbsYtkhcbbpfchgemaaDoor
set_option linter.unusedVariables false
set_option linter.unusedSimpArgs false
set_option linter.unusedSectionVars false
open Go

section
variable {α : Type} [DecidableEq α]
variable {mk : α → Value}
variable {E : Env} {H : AHeap}
end
end AbsYtkhcbbpfchgemaaDoor

/-
 Numbers: quotients,remainders,bits; loops that are run through.
-/
namespace AbsYtkhcbbpfchgemaaDoor
set_option linter.unusedVariables false
set_option linter.unusedSimpArgs false
set_option linter.unusedSectionVars false
open Go

def andT (k : IntKind) (j : IntKind) : Bool := (List.range 256).all fun n => match aint .and k (n : Int) 127 with
 | some (.int j' m) => decide (j' = j) && decide (m = (n : Int) % 128)
 | _ => false
theorem and127 {k : IntKind} (hk : k = .i64 ∨ k = .u8) {a : Int} (h0 : 0 ≤ a) (h1 : a < 256) : aint .and k a 127 = some (.int k (a % 128)) := by
 have ht : andT k k = true := by rcases hk with rfl | rfl <;> decide +kernel
 simp only [andT,List.all_eq_true,List.mem_range] at ht
 have := ht a.toNat (by omega)
 rw [show ((a.toNat : Nat) : Int) = a by omega] at this
 split at this
 ·rename_i j m hm
  simp only [Bool.and_eq_true,decide_eq_true_eq] at this
  rw [hm,this.1,this.2]
 ·cases this
theorem abits_nat {n m : Nat} (hn : n < 2 ^ 62) (hm : m < 2 ^ 62) (hor : n ||| m < 2 ^ 62) : aint .or .i64 (n : Int) (m : Int) = some (.int .i64 ((n ||| m : Nat) : Int)) := by
 have key : ((BitVec.ofInt 64 (n : Int)) ||| (BitVec.ofInt 64 (m : Int))).toNat = n ||| m := by
  rw [BitVec.toNat_or,BitVec.ofInt_natCast,BitVec.ofInt_natCast,BitVec.toNat_ofNat,BitVec.toNat_ofNat]
  rw [Nat.mod_eq_of_lt (by omega),Nat.mod_eq_of_lt (by omega)]
 show some (Value.int .i64 (IntKind.i64.wrap ((((BitVec.ofInt 64 (n : Int)) ||| (BitVec.ofInt 64 (m : Int))).toNat : Nat) : Int))) = _
 rw [key,wrap64 ⟨by omega,by omega⟩]
theorem or_add {n m i : Nat} (h : n < 2 ^ i) : n ||| (m * 2 ^ i) = n + m * 2 ^ i := by
 rw [Nat.or_comm,Nat.mul_comm,← Nat.two_pow_add_eq_or_of_lt h]; omega
section
variable {E : Env} {H : AHeap}
theorem slice_from {t a b : Nat} {z : Option (List ZV)} {q : Bool} (ht : E.ty.get t = some ⟨.string,a,b,z,q⟩) {s : ByteArray} {k : Nat} (h : k ≤ s.size) : aslice E H t (.string s) (some (.int .i64 (k : Int))) none none = some (.string (s.extract k s.size)) := by
 simp [aslice,ht,abound,h]
theorem slice_both {t a b : Nat} {z : Option (List ZV)} {q : Bool} (ht : E.ty.get t = some ⟨.string,a,b,z,q⟩) {s : ByteArray} {k l : Nat} (h : k ≤ l) (h' : l ≤ s.size) : aslice E H t (.string s) (some (.int .i64 (k : Int))) (some (.int .i64 (l : Int))) none = some (.string (s.extract k l)) := by
 simp [aslice,ht,abound,h,h']
end
def andOk (m : Int) (f : Nat → Nat) : Bool := (List.range 256).all fun n => match aint .and .u8 (n : Int) m with
 | some (.int .u8 r) => decide (r = (f n : Int))
 | _ => false
theorem and_u8 {m : Int} {f : Nat → Nat} (h : andOk m f = true) {c : Nat} (hc : c < 256) : aint .and .u8 (c : Int) m = some (.int .u8 ((f c : Nat) : Int)) := by
 simp only [andOk,List.all_eq_true,List.mem_range] at h
 have := h c hc
 split at this
 ·rename_i r hr
  rw [hr]; simp only [decide_eq_true_eq] at this; rw [this]
 ·cases this
theorem and192 {c : Nat} (h : c < 256) : aint .and .u8 (c : Int) 192 = some (.int .u8 ((c / 64 * 64 : Nat) : Int)) := and_u8 (f := fun c => c / 64 * 64) (by decide +kernel) h
theorem and63 {c : Nat} (h : c < 256) : aint .and .u8 (c : Int) 63 = some (.int .u8 ((c % 64 : Nat) : Int)) := and_u8 (f := fun c => c % 64) (by decide +kernel) h
theorem and31 {c : Nat} (h : c < 256) : aint .and .u8 (c : Int) 31 = some (.int .u8 ((c % 32 : Nat) : Int)) := and_u8 (f := fun c => c % 32) (by decide +kernel) h
theorem and15 {c : Nat} (h : c < 256) : aint .and .u8 (c : Int) 15 = some (.int .u8 ((c % 16 : Nat) : Int)) := and_u8 (f := fun c => c % 16) (by decide +kernel) h
theorem and7 {c : Nat} (h : c < 256) : aint .and .u8 (c : Int) 7 = some (.int .u8 ((c % 8 : Nat) : Int)) := and_u8 (f := fun c => c % 8) (by decide +kernel) h
theorem shl6 {E : Env} {H : AHeap} {n t : Nat} {cs : Bool} (h : n < 2 ^ 40) : abin E H .shl t cs (.int .i64 (n : Int)) (.int .u64 6) = some (.int .i64 ((n * 64 : Nat) : Int)) := by
 simp only [abin,ashift]
 rw [if_neg (by omega)]
 show some (Value.int .i64 (IntKind.i64.wrap ((n : Int) * 2 ^ 6))) = _
 rw [wrap64 ⟨by omega,by omega⟩]; congr 2
theorem or6 {n x : Nat} (h : n < 2 ^ 40) (hx : x < 64) : aint .or .i64 ((n * 64 : Nat) : Int) (x : Int) = some (.int .i64 ((n * 64 + x : Nat) : Int)) := by
 have e : n * 64 ||| x = n * 64 + x := by
  have := or_add (n := x) (m := n) (i := 6) (by omega)
  rw [Nat.or_comm,show n * 64 = n * 2 ^ 6 from rfl,this]; omega
 rw [abits_nat (by omega) (by omega) (by rw [e]; omega),e]
end AbsYtkhcbbpfchgemaaDoor

/-
 The walk's rules in two bundles.
-/
namespace AbsYtkhcbbpfchgemaaDoor
open Go
set_option linter.defProp false
def wbD := And.intro @W_seq <| And.intro @W_region <| And.intro @W_block <| And.intro @W_cond <| And.intro @W_skip <| And.intro @W_ret <| And.intro @W_exit <| And.intro @O_op <| And.intro @O_guardC <| And.intro @O_nil <| And.intro @after_val <| And.intro @after_call <| And.intro @then_normal <| And.intro @then_ret <| And.intro @then_exit <| And.intro @blockQ_ret <| And.intro @blockQ_normal <| And.intro @blockQ_exit <| And.intro @retQ_ret <| And.intro @retQ_normal <| And.intro @C_true <| And.intro @C_false <| And.intro @K_op <| And.intro @W_drawT <| And.intro @T_op <| And.intro @T_guard <| And.intro @T_nil <| And.intro @trK_iff <| @consQ_iff
def wbU := And.intro @GT_true <| And.intro @GT_tf <| And.intro @GT_ft <| And.intro @array_toList <| And.intro @G_true <| And.intro @G_tf <| And.intro @G_ft <| And.intro @yield_list <| And.intro @yield_here <| And.intro @yield_next <| And.intro @truth_bool <| And.intro @thenQ_normal <| And.intro @thenQ_exit <| And.intro @thenQ_ret <| And.intro @vres_some <| And.intro @hres_some <| And.intro @ures_some <| And.intro @abin_int <| And.intro @aint_eql <| And.intro @aint_neq <| And.intro @aint_lss <| And.intro @aint_leq <| And.intro @aint_gtr <| And.intro @aint_geq <| And.intro @aint_add <| And.intro @aint_sub <| And.intro @aput_some <| And.intro @aput_none <| And.intro @res_cell1 <| And.intro @upd_at <| And.intro @aev_const <| And.intro @aev_tmp <| And.intro @aev_func <| And.intro @ofL_zero <| And.intro @ofL_succ <| And.intro @ofL_nil <| And.intro @res_nil <| And.intro @res_tmp <| And.intro @oneOf_one <| And.intro @oneOf_two <| And.intro @oneOf_three <| And.intro @Option.map_some.{0,0} <| And.intro @Option.map_none.{0,0} <| And.intro @ne_eq.{1} <| And.intro @not_false_eq_true <| And.intro @Option.some.injEq.{0} <| And.intro @exists_eq_left'.{1} <| And.intro @List.map_cons.{0,0} <| And.intro @List.map_nil.{0,0} <| And.intro @not_true <| And.intro @true_and <| And.intro @Array.toList_empty.{0} <| And.intro @List.nil_append.{0} <| And.intro @List.append_nil.{0} <| And.intro @G_undef <| And.intro @GT_undef <| And.intro @str_eql <| And.intro @str_neq' <| And.intro @min_int <| @max_int
end AbsYtkhcbbpfchgemaaDoor

/-
 Reasoning over a part of the heap: what is known of it,and nothing else; more that lies there does no harm.
-/
namespace AbsYtkhcbbpfchgemaaDoor
set_option linter.unusedVariables false
set_option linter.unusedSimpArgs false
set_option linter.unusedSectionVars false
open Go

def Le (σ' σ : AHeap) : Prop := ∀ b,σ'.get b ≠ .dead → σ.get b = σ'.get b
theorem Le.refl (σ : AHeap) : Le σ σ := fun _ _ => rfl
theorem Le.trans {a b c : AHeap} (h : Le a b) (k : Le b c) : Le a c := fun x hx => by
 have e := h x hx
 rw [k x (by rw [e]; exact hx),e]
structure Holds (B σ H : AHeap) : Prop where
 base : ∀ b,B.get b ≠ .dead → H.get b = B.get b ∧ b < H.size
 part : ∀ b,σ.get b ≠ .dead → H.get b = σ.get b ∧ b < H.size
theorem Holds.le {B σ' σ H : AHeap} (h : Holds B σ H) (hl : Le σ' σ) : Holds B σ' H := ⟨h.base,fun b hb => by
 have e := hl b hb
 have := h.part b (by rw [e]; exact hb)
 exact ⟨by rw [this.1,e],this.2⟩⟩
def AHeap.resize (σ : AHeap) (n : Nat) : AHeap := ⟨σ.tr,n⟩
inductive SRes where
 | val (v : Value) (σ : AHeap)
 | new (o : AObj) (v : Nat → Value)
 | any (f : Nat → Option (Value × AHeap))
 | call (f : Nat) (args : List Value)

def sres (r : Option ARes) : Option SRes := match r with
 | some (.val v H) => some (.val v H)
 | some (.call f args) => some (.call f args)
 | none => none
def boxS (t : Nat) (E : Env) (cs : List Value) (σ : AHeap) : SRes := if E.dp t && frzL E.ng E.nb cs then .val (dptr cs) σ else if E.dp t && frzL E.ng E.nb (bareL cs) then .val (dptr (bareL cs)) σ else .new (.cells cs true 0) fun b => .pointer (some ⟨b,0,none⟩)
def offHeap (r : Option (Value × AHeap)) (σ : AHeap) (f : Nat → Option (Value × AHeap)) : SRes := match r with
 | some (.int k n,_) => .val (.int k n) σ
 | some (.string s,_) => .val (.string s) σ
 | some (.func (.yield 1) a b,_) => .val (.func (.yield 1) a b) σ
 | _ => .any f
def convS (E : Env) (σ : AHeap) (s d : Nat) (x : Value) : SRes := offHeap (aconvert E .empty s d x) σ fun b => aconvert E (σ.resize b) s d x
def bsS (E : Env) (σ : AHeap) (t n : Nat) (ps : List (Nat × Value)) : SRes := offHeap (abuildSlice E .empty t n ps) σ fun b => abuildSlice E (σ.resize b) t n ps
def sop (E : Env) (B : AHeap) (A : List Value) (σ : AHeap) (op : Op) : Option SRes :=
 match op with
 | .alloc t => (azero E t).map fun z => .new (.cells z true 0) fun b => .pointer (some ⟨b,0,none⟩)
 | .box t x => some (boxS t E (vcells (aev A x)) σ)
 | .makeMap _ none => some (.new (.map [] 0) fun b => .map (some b))
 | .load t (.global g) => (aload E B t (aev A (.global g))).map fun v => .val v σ
 | .buildSlice t n ps => some (bsS E σ t n (pairs A ps))
 | .makeSlice t l c => some (.any fun b => amakeSlice E (σ.resize b) t (aev A l) (aev A c))
 | .convert s d x => some (convS E σ s d (aev A x))
 | .call ⟨.builtin .append,args,ts⟩ => some (.any fun b => aappend E (σ.resize b) ts.toList (args.toList.map (aev A)))
 | op => sres (aop E A σ op)
def afterS (CS : Nat → List Value → AHeap → (Value → AHeap → Prop) → Prop) (r : Option SRes) (σ : AHeap) (K : Value → AHeap → Prop) : Prop :=
 match r with
 | some (.val v σ') => K v σ'
 | some (.new o v) => ∀ b,σ.get b = .dead → K (v b) (σ.set b o)
 | some (.any f) => ∀ b,(∀ c,σ.get c ≠ .dead → c < b) → ∃ v H',f b = some (v,H') ∧ K v (H'.resize σ.size)
 | some (.call f args) => CS f args σ K
 | none => False

def CallS (E : Env) (B : AHeap) (f : Nat) (args : List Value) (σ : AHeap) (Q : Value → AHeap → Prop) : Prop :=
 ∀ H,Holds B σ H → CallW E f args H fun r H' => ∃ σ',Holds B σ' H' ∧ Q r σ'
theorem CallS.mono {E : Env} {B : AHeap} {f : Nat} {args : List Value} {σ : AHeap} {Q Q' : Value → AHeap → Prop} (h : CallS E B f args σ Q) (hq : ∀ v σ,Q v σ → Q' v σ) : CallS E B f args σ Q' :=
 fun H hH => (h H hH).mono fun r H' ⟨σ',h1,h2⟩ => ⟨σ',h1,hq _ _ h2⟩

def OpsS (E : Env) (B : AHeap) (all : Array Oper) : List Oper → List Value → AHeap → (List Value → AHeap → Prop) → Prop
 | [],A,σ,K => K A σ
 | o :: l,A,σ,K => if Region.wanted o (ayield all A) then afterS (CallS E B) (sop E B A σ o.op) σ (fun v σ' => OpsS E B all l (aput A o.dst v) σ' K) else OpsS E B all l (aput A o.dst undef) σ K
def TrS (E : Env) (B : AHeap) (all : Array Oper) : List Oper → List Value → AHeap → (List (List Value × AHeap) → Prop) → Prop
 | [],A,σ,P => P [(A,σ)]
 | o :: l,A,σ,P => if Region.wanted o (ayield all A) then afterS (CallS E B) (sop E B A σ o.op) σ (fun v σ' => TrS E B all l (aput A o.dst v) σ' (fun tr => P ((A,σ) :: tr))) else TrS E B all l (aput A o.dst undef) σ (fun tr => P ((A,σ) :: tr))
def deadO : AObj → Bool
 | .dead => true
 | _ => false
theorem deadO_iff {o : AObj} : deadO o = false ↔ o ≠ .dead := by cases o <;> simp [deadO]
def floatS (B : AHeap) (ops : Array Oper) (tr : List (List Value × AHeap)) (p : Nat × Nat) : Bool :=
 match tr[p.1]?,ops[p.1]?,tr[p.2]?,tr[p.2 + 1]? with
 | some (A,_),some o,some (_,σ),some (_,σ') =>
  !Region.wanted o (ayield ops A) || (reads A o.op).all fun b => !deadO (B.get b) || (!deadO (σ.get b) && !deadO (σ'.get b) && if looksWeak o.op then oszeq (σ.get b) (σ'.get b) else oeq (σ.get b) (σ'.get b))
 | _,_,_,_ => false

def nextI (I : Nat → (Nat → Value) → AHeap → Prop) (n k : Nat) (A : List Value) (σ : AHeap) : Prop := ∃ f k' σ',A = L n f ∧ k' < k ∧ Le σ' σ ∧ I k' f σ'
def wr : Code → List Nat
 | .seq a b => wr a ++ wr b
 | .cond _ a b => wr a ++ wr b
 | .block _ c => wr c
 | .loop c => wr c
 | .scope c => wr c
 | .region _ ops _ => ops.toList.filterMap (·.dst)
 | _ => []
def CodeS (E : Env) (B : AHeap) : Code → List Value → AHeap → (AExit → List Value → AHeap → Prop) → Prop
 | .skip,A,σ,Q => Q .normal A σ
 | .label _,A,σ,Q => Q .normal A σ
 | .seq a b,A,σ,Q => CodeS E B a A σ (thenQ Q fun A σ => CodeS E B b A σ Q)
 | .cond x a b,A,σ,Q => condW (aev A x) (CodeS E B a A σ Q) (CodeS E B b A σ Q)
 | .block id c,A,σ,Q => CodeS E B c A σ (blockQ id Q)
 | .loop c,A,σ,Q => ∃ n f,A = L n f ∧ ∃ (I : Nat → (Nat → Value) → AHeap → Prop) (k : Nat) (σ0 : AHeap),Le σ0 σ ∧ I k f σ0 ∧
   ∀ k f' σ',I k f' σ' → (∀ t,t < n → t ∉ wr c → f' t = f t) → CodeS E B c (L n f') σ' (thenQ Q (nextI I n k))
 | .scope c,A,σ,Q => CodeS E B c A σ Q
 | .exit id,A,σ,Q => Q (.exit id) A σ
 | .ret,A,σ,Q => Q .ret A σ
 | .region _ ops draw,A,σ,Q => if draw then TrS E B ops ops.toList A σ (fun tr => (floatPairs ops).all (floatS B ops tr) = true ∧ ∃ A' σ',tr.getLast? = some (A',σ') ∧ Q .normal A' σ') else OpsS E B ops ops.toList A σ (Q .normal)
 | _,_,_,_ => False

section
variable {E : Env} {B σ σ' H : AHeap}

theorem Holds.get (h : Holds B σ H) {b : Nat} {o : AObj} (hg : σ.get b = o) (ho : o ≠ .dead) : H.get b = o := by rw [(h.part b (by rw [hg]; exact ho)).1,hg]
theorem Holds.set (h : Holds B σ H) {b : Nat} {o o' : AObj} (hg : σ.get b = o) (ho : wrt σ b = true) (hB : ∀ b,B.get b ≠ .dead → wrt B b = false) : Holds B (σ.set b o') (H.set b o') := by
 have hl : σ.get b ≠ .dead := by intro e; simp [wrt,e] at ho
 obtain ⟨h1,h2⟩ := h.part b hl
 refine ⟨fun c hc => ?_,fun c hc => ?_⟩
 ·obtain ⟨k1,k2⟩ := h.base c hc
  have : b ≠ c := by
   rintro rfl
   have := hB b hc
   simp only [wrt,← k1,h1] at this
   simp only [wrt,this] at ho
   cases ho
  rw [AHeap.get_set_ne _ _ this,AHeap.size_set]; exact ⟨k1,k2⟩
 ·by_cases e : b = c
  ·subst e; rw [AHeap.get_set_same,AHeap.get_set_same,AHeap.size_set]; exact ⟨rfl,h2⟩
  ·rw [AHeap.get_set_ne _ _ e] at hc ⊢
   rw [AHeap.get_set_ne _ _ e,AHeap.size_set]
   exact h.part c hc
theorem Holds.alloc (h : Holds B σ H) (o : AObj) : Holds B (σ.set H.size o) (H.alloc o) := by
 refine ⟨fun c hc => ?_,fun c hc => ?_⟩
 ·obtain ⟨k1,k2⟩ := h.base c hc
  rw [AHeap.get_alloc_ne _ _ (by omega),AHeap.size_alloc]; exact ⟨k1,by omega⟩
 ·by_cases e : H.size = c
  ·subst e; rw [AHeap.get_set_same,AHeap.get_alloc_same,AHeap.size_alloc]; exact ⟨rfl,by omega⟩
  ·rw [AHeap.get_set_ne _ _ e] at hc ⊢
   rw [AHeap.get_alloc_ne _ _ e,AHeap.size_alloc]
   exact ⟨(h.part c hc).1,by have := (h.part c hc).2; omega⟩
theorem Holds.fresh (h : Holds B σ H) : σ.get H.size = .dead := by
 cases hg : σ.get H.size with
 | dead => rfl
 | cells cs wr sz => have := (h.part H.size (by rw [hg]; simp)).2; omega
 | map es c => have := (h.part H.size (by rw [hg]; simp)).2; omega
theorem Holds.top (h : Holds B σ H) : ∀ c,σ.get c ≠ .dead → c < H.size := fun c hc => (h.part c hc).2

theorem aload_le (h : Holds B σ H) {t : Nat} {x v : Value} (hs : aload E σ t x = some v) : aload E H t x = some v := by
 unfold aload at hs ⊢
 split at hs
 ·split at hs
  ·rename_i hg _; rw [h.get hg (by simp)]; simp only [*]
  ·cases hs
 ·exact hs
 ·cases hs
theorem aload_base (h : Holds B σ H) {t : Nat} {x v : Value} (hs : aload E B t x = some v) : aload E H t x = some v :=
 aload_le (B := B) (σ := B) ⟨h.base,h.base⟩ hs
theorem takeCells_le (h : Holds B σ H) {b o n : Nat} {l : List Value} (hs : takeCells σ b o n = some l) : takeCells H b o n = some l := by
 unfold takeCells at hs ⊢
 split at hs
 ·rename_i hg; rw [h.get hg (by simp)]; exact hs
 ·cases hs
theorem aeq_le (h : Holds B σ H) : ∀ {d t : Nat} {x y : Value} {r : Bool},aeq E σ d t x y = some r → aeq E H d t x y = some r := by
 intro d t x y r hs
 cases d with
 | zero => simp [aeq] at hs
 | succ d =>
  unfold aeq at hs ⊢
  cases ht : E.ty.get t with
  | none => rw [ht] at hs; cases hs
  | some i =>
   rw [ht] at hs
   simp only at hs ⊢
   split at hs
   all_goals first
    | (cases hs; done)
    | (simp only [*]; done)
    | exact hs
    | skip
   rename_i e a o b p hk
   cases hj : E.ty.get e with
   | none => rw [hj] at hs; cases hs
   | some j =>
    rw [hj] at hs
    simp only at hs ⊢
    split at hs
    ·cases hs
    ·rename_i h1
     rw [if_neg h1]
     split at hs
     ·rename_i h2; rw [if_pos h2]; exact hs
     ·rename_i h2
      rw [if_neg h2]
      split at hs
      ·rename_i g1 g2
       rw [h.get g1 (by simp),h.get g2 (by simp)]; exact hs
      ·cases hs
theorem abin_le (h : Holds B σ H) {op : BinOp} {t : Nat} {cs : Bool} {x y v : Value} (hs : abin E σ op t cs x y = some v) : abin E H op t cs x y = some v := by
 unfold abin at hs ⊢
 split at hs
 ·exact hs
 ·exact hs
 ·split at hs
  ·rename_i hc
   rw [if_pos hc]
   split at hs
   ·simp only [Option.map_eq_some_iff] at hs ⊢
    obtain ⟨r,h1,h2⟩ := hs; exact ⟨r,aeq_le h h1,h2⟩
   ·simp only [Option.map_eq_some_iff] at hs ⊢
    obtain ⟨r,h1,h2⟩ := hs; exact ⟨r,aeq_le h h1,h2⟩
   ·cases hs
  ·cases hs
theorem szOk_le (h : Holds B σ H) {b n : Nat} (hs : szOk σ b n = true) : szOk H b n = true := by
 unfold szOk at hs ⊢
 split at hs
 ·rename_i hg; rw [h.get hg (by simp)]; exact hs
 ·cases hs
theorem aslice_le (h : Holds B σ H) {t : Nat} {x v : Value} {lo hi mx : Option Value} (hs : aslice E σ t x lo hi mx = some v) : aslice E H t x lo hi mx = some v := by
 unfold aslice at hs ⊢
 split at hs
 ·cases hs
 ·rename_i i hi
  split at hs
  ·exact hs
  ·rename_i e b o ex len c _
   split at hs
   ·cases hs
   ·rename_i j hj
    split at hs
    ·cases hs
    ·rename_i hc
     simp only [Bool.or_eq_true,Bool.not_eq_true',not_or,Bool.not_eq_true,Bool.not_eq_false] at hc
     rw [if_neg (by simp [hc.1,szOk_le h hc.2])]
     exact hs
  ·exact hs
  ·rename_i n e b o _
   split at hs
   ·cases hs
   ·rename_i j hj
    split at hs
    ·cases hs
    ·rename_i hc
     simp only [Bool.or_eq_true,Bool.not_eq_true',not_or,Bool.not_eq_true,Bool.not_eq_false] at hc
     rw [if_neg (by simp [hc.1,szOk_le h hc.2])]
     exact hs
  ·exact hs
  ·cases hs
theorem alookup_le (h : Holds B σ H) {t : Nat} {m k v : Value} {ok : Bool} (hs : alookup E σ t m k ok = some v) : alookup E H t m k ok = some v := by
 unfold alookup at hs ⊢
 split at hs
 ·split at hs
  ·split at hs
   ·exact hs
   ·split at hs
    ·rename_i hg; simp only [h.get hg (by simp)]; exact hs
    ·cases hs
   ·cases hs
  ·cases hs
 ·cases hs
theorem srcCells_le (h : Holds B σ H) {size : Nat} {x : Value} {p : Nat × List Value} (hs : srcCells σ size x = some p) : srcCells H size x = some p := by
 unfold srcCells at hs ⊢
 split at hs
 ·exact hs
 ·simp only [Option.map_eq_some_iff] at hs ⊢
  obtain ⟨l,h1,h2⟩ := hs; exact ⟨l,takeCells_le h h1,h2⟩
 ·exact hs
 ·exact hs
 ·cases hs
theorem astoreAt_le (h : Holds B σ H) (hB : ∀ b,B.get b ≠ .dead → wrt B b = false) {b o : Nat} {xs : List Value} (hs : astoreAt σ b o xs = some σ') : ∃ H',astoreAt H b o xs = some H' ∧ Holds B σ' H' := by
 obtain ⟨cs,sz,hg,h1,h2,rfl⟩ := astoreAt_parts hs
 refine ⟨H.set b (.cells (splice cs o xs) true sz),?_,h.set hg (by simp [wrt,hg]) hB⟩
 unfold astoreAt
 rw [h.get hg (by simp)]
 simp [h1,h2]
end
end AbsYtkhcbbpfchgemaaDoor

/-
 What is shown of a part of the heap holds of the whole.
-/
namespace AbsYtkhcbbpfchgemaaDoor
set_option linter.unusedVariables false
set_option linter.unusedSimpArgs false
set_option linter.unusedSectionVars false
open Go

section
variable {E : Env} {B σ σ' H : AHeap}

theorem Holds.resize (h : Holds B σ H) {n : Nat} : Holds B (σ.resize n) H := ⟨h.base,h.part⟩
theorem Holds.grow (h : Holds B σ H) (hz : σ.size = H.size) (o : AObj) : Holds B (σ.alloc o) (H.alloc o) := by
 have := h.alloc o
 exact ⟨this.base,fun c hc => this.part c (by
  have e : (σ.set H.size o).get c = (σ.alloc o).get c := by
   by_cases e : H.size = c
   ·subst e; rw [AHeap.get_set_same]; rw [← hz]; rw [AHeap.get_alloc_same]
   ·rw [AHeap.get_set_ne _ _ e,AHeap.get_alloc_ne _ _ (by omega)]
  rw [e]; exact hc) |>.imp (fun e => by
  rw [e]
  by_cases e : H.size = c
  ·subst e; rw [AHeap.get_set_same]; rw [← hz]; rw [AHeap.get_alloc_same]
  ·rw [AHeap.get_set_ne _ _ e,AHeap.get_alloc_ne _ _ (by omega)]) id⟩

theorem abuildSlice_le (h : Holds B σ H) (hz : σ.size = H.size) {t n : Nat} {ps : List (Nat × Value)} {v : Value} {σ1 : AHeap} (hs : abuildSlice E σ t n ps = some (v,σ1)) :
  ∃ H1,abuildSlice E H t n ps = some (v,H1) ∧ Holds B σ1 H1 := by
 unfold abuildSlice at hs ⊢
 split at hs
 ·split at hs
  ·split at hs
   ·cases hs
   ·rename_i hc
    simp only [Option.map_eq_some_iff] at hs
    obtain ⟨cs,h1,h2⟩ := hs
    rw [if_neg hc,h1]
    split at h2
    ·rename_i hd
     injection h2 with h2 h3; subst h2; subst h3
     exact ⟨H,by simp only [Option.map_some,if_pos hd],h⟩
    ·rename_i hd
     injection h2 with h2 h3; subst h2; subst h3
     exact ⟨_,by simp only [Option.map_some,if_neg hd,hz],h.grow hz _⟩
  ·cases hs
 ·cases hs
theorem amakeSlice_le (h : Holds B σ H) (hz : σ.size = H.size) {t : Nat} {l c v : Value} {σ1 : AHeap} (hs : amakeSlice E σ t l c = some (v,σ1)) :
  ∃ H1,amakeSlice E H t l c = some (v,H1) ∧ Holds B σ1 H1 := by
 unfold amakeSlice at hs ⊢
 split at hs
 ·split at hs
  ·split at hs
   ·rename_i hc
    rw [if_pos hc]
    simp only [Option.some.injEq,Prod.mk.injEq] at hs
    obtain ⟨rfl,rfl⟩ := hs
    exact ⟨_,by rw [hz],h.grow hz _⟩
   ·cases hs
  ·cases hs
 ·cases hs
theorem aconvert_le (h : Holds B σ H) (hz : σ.size = H.size) {s d : Nat} {x v : Value} {σ1 : AHeap} (hs : aconvert E σ s d x = some (v,σ1)) :
  ∃ H1,aconvert E H s d x = some (v,H1) ∧ Holds B σ1 H1 := by
 unfold aconvert at hs ⊢
 split at hs
 ·split at hs
  ·simp only [Option.some.injEq,Prod.mk.injEq] at hs; obtain ⟨rfl,rfl⟩ := hs; exact ⟨H,rfl,h⟩
  ·simp only [Option.some.injEq,Prod.mk.injEq] at hs; obtain ⟨rfl,rfl⟩ := hs; exact ⟨H,rfl,h⟩
  ·split at hs
   ·split at hs
    ·rename_i hd
     simp only [Option.some.injEq,Prod.mk.injEq] at hs; obtain ⟨rfl,rfl⟩ := hs
     exact ⟨H,by simp only [if_pos hd],h⟩
    ·rename_i hd
     simp only [Option.some.injEq,Prod.mk.injEq] at hs; obtain ⟨rfl,rfl⟩ := hs
     exact ⟨_,by simp only [if_neg hd,hz],h.grow hz _⟩
   ·cases hs
  ·split at hs
   ·simp only [Option.some.injEq,Prod.mk.injEq] at hs; obtain ⟨rfl,rfl⟩ := hs; exact ⟨H,rfl,h⟩
   ·cases hs
  ·split at hs
   ·split at hs
    ·rename_i ht
     simp only [Option.map_eq_some_iff] at hs
     obtain ⟨bs,h1,h2⟩ := hs
     injection h2 with h2 h3; subst h2; subst h3
     exact ⟨H,by simp only [takeCells_le h ht,h1,Option.map_some],h⟩
    ·cases hs
   ·cases hs
  ·split at hs
   ·split at hs
    ·rename_i hc
     simp only [Option.map_eq_some_iff] at hs
     obtain ⟨bs,h1,h2⟩ := hs
     injection h2 with h2 h3; subst h2; subst h3
     exact ⟨H,by simp only [if_pos hc,h1,Option.map_some],h⟩
    ·cases hs
   ·cases hs
  ·cases hs
 ·cases hs
theorem wrt_of {b : Nat} {cs : List Value} {sz : Nat} (h : σ.get b = .cells cs true sz) : wrt σ b = true := by simp [wrt,h]

theorem aappend_le (h : Holds B σ H) (hB : ∀ b,B.get b ≠ .dead → wrt B b = false) (hz : σ.size = H.size) {ts : List Nat} {args : List Value} {v : Value} {σ1 : AHeap} (hs : aappend E σ ts args = some (v,σ1)) :
  ∃ H1,aappend E H ts args = some (v,H1) ∧ Holds B σ1 H1 := by
 unfold aappend at hs ⊢
 split at hs
 ·split at hs
  ·split at hs
   ·split at hs
    ·cases hs
    ·rename_i hc
     rw [if_neg hc]
     split at hs
     ·cases hs
     ·rename_i k new hsrc
      simp only [srcCells_le h hsrc]
      split at hs
      ·-- nil
       split at hs
       ·rename_i hk
        simp only [Option.some.injEq,Prod.mk.injEq] at hs; obtain ⟨rfl,rfl⟩ := hs
        exact ⟨H,by rw [if_pos hk],h⟩
       ·rename_i hk
        rw [if_neg hk]
        split at hs
        ·rename_i hl
         rw [if_pos hl]
         split at hs
         ·rename_i hd
          rw [if_pos hd]
          split at hs
          ·rename_i hf
           rw [if_pos hf]
           simp only [Option.some.injEq,deepNew,Prod.mk.injEq] at hs; obtain ⟨rfl,rfl⟩ := hs
           exact ⟨_,by simp only [deepNew,hz],h.grow hz _⟩
          ·cases hs
         ·rename_i hd
          rw [if_neg hd]
          simp only [Option.some.injEq,Prod.mk.injEq] at hs; obtain ⟨rfl,rfl⟩ := hs
          exact ⟨_,by simp only [hz],h.grow hz _⟩
        ·cases hs
      ·-- a slice
       split at hs
       ·rename_i hn
        rw [if_pos hn]
        split at hs
        ·rename_i hg
         simp only [h.get hg (by simp)]
         split at hs
         ·rename_i hsz
          rw [if_pos hsz]
          split at hs
          ·rename_i hk
           rw [if_pos hk]
           simp only [Option.some.injEq,Prod.mk.injEq] at hs; obtain ⟨rfl,rfl⟩ := hs
           exact ⟨H,rfl,h⟩
          ·rename_i hk
           rw [if_neg hk]
           simp only [Option.map_eq_some_iff] at hs
           obtain ⟨σ2,h1,h2⟩ := hs
           injection h2 with h2 h3; subst h2; subst h3
           obtain ⟨H2,h4,h5⟩ := astoreAt_le h hB h1
           exact ⟨H2,by rw [h4]; rfl,h5⟩
         ·cases hs
        ·cases hs
       ·rename_i hn
        rw [if_neg hn]
        split at hs
        ·rename_i hl
         rw [if_pos hl]
         split at hs
         ·simp only [Option.map_eq_some_iff] at hs
          obtain ⟨old,h1,h2⟩ := hs
          injection h2 with h2 h3; subst h2; subst h3
          exact ⟨_,by simp only [takeCells_le h h1,Option.map_some,hz],h.grow hz _⟩
         ·split at hs
          ·rename_i hg
           simp only [h.get hg (by simp)]
           split at hs
           ·rename_i hq
            rw [if_pos hq]
            simp only [Option.some.injEq,Prod.mk.injEq] at hs; obtain ⟨rfl,rfl⟩ := hs
            exact ⟨_,by simp only [hz],(h.set hg (wrt_of hg) hB).grow (by simpa [AHeap.set] using hz) _⟩
           ·cases hs
          ·cases hs
         ·cases hs
        ·cases hs
      ·-- a deep slice
       split at hs
       ·rename_i hsz
        rw [if_pos hsz]
        split at hs
        ·rename_i hk
         rw [if_pos hk]
         simp only [Option.some.injEq,Prod.mk.injEq] at hs; obtain ⟨rfl,rfl⟩ := hs
         exact ⟨H,rfl,h⟩
        ·rename_i hk
         rw [if_neg hk]
         split at hs
         ·rename_i hl
          rw [if_pos hl]
          split at hs
          ·cases hs
          ·simp only [Option.some.injEq,deepNew,Prod.mk.injEq] at hs; obtain ⟨rfl,rfl⟩ := hs
           exact ⟨_,by simp only [deepNew,hz],h.grow hz _⟩
          ·split at hs
           ·rename_i hg
            simp only [h.get hg (by simp)]
            split at hs
            ·rename_i hq
             rw [if_pos hq]
             simp only [Option.some.injEq,deepNew,Prod.mk.injEq] at hs; obtain ⟨rfl,rfl⟩ := hs
             exact ⟨_,by simp only [deepNew,AHeap.size_set,hz],(h.set hg (wrt_of hg) hB).grow (by simpa [AHeap.set] using hz) _⟩
            ·cases hs
           ·cases hs
         ·cases hs
       ·cases hs
      ·cases hs
   ·cases hs
  ·cases hs
 ·cases hs

theorem Holds.setMap (h : Holds B σ H) {b : Nat} {es : List MapEntry} {c : Nat} {o' : AObj} (hg : σ.get b = .map es c) (hB : ∀ b,B.get b ≠ .dead → wrt B b = false) : Holds B (σ.set b o') (H.set b o') :=
 h.set (o := .map es c) hg (by simp [wrt,hg]) hB
theorem astore_le (h : Holds B σ H) (hB : ∀ b,B.get b ≠ .dead → wrt B b = false) {t : Nat} {x v : Value} {σ1 : AHeap} (hs : astore E σ t x v = some σ1) : ∃ H1,astore E H t x v = some H1 ∧ Holds B σ1 H1 := by
 unfold astore at hs ⊢
 split at hs
 ·split at hs
  ·rename_i hc
   rw [if_pos hc]
   exact astoreAt_le h hB hs
  ·cases hs
 ·cases hs
theorem amapUpdate_le (h : Holds B σ H) (hB : ∀ b,B.get b ≠ .dead → wrt B b = false) {t : Nat} {m k v : Value} {σ1 : AHeap} (hs : amapUpdate E σ t m k v = some σ1) : ∃ H1,amapUpdate E H t m k v = some H1 ∧ Holds B σ1 H1 := by
 unfold amapUpdate at hs ⊢
 split at hs
 ·split at hs
  ·rename_i hk hg
   simp only [hk,h.get hg (by simp)]
   split at hs
   ·simp only [Option.some.injEq] at hs; subst hs; exact ⟨_,rfl,h.setMap hg hB⟩
   ·simp only [Option.some.injEq] at hs; subst hs; exact ⟨_,rfl,h.setMap hg hB⟩
   ·cases hs
  ·cases hs
 ·cases hs
theorem adelete_le (h : Holds B σ H) (hB : ∀ b,B.get b ≠ .dead → wrt B b = false) {t : Nat} {m k : Value} {σ1 : AHeap} (hs : adelete E σ t m k = some σ1) : ∃ H1,adelete E H t m k = some H1 ∧ Holds B σ1 H1 := by
 unfold adelete at hs ⊢
 split at hs
 ·split at hs
  ·simp only [Option.some.injEq] at hs; subst hs; exact ⟨_,rfl,h⟩
  ·split at hs
   ·rename_i hg
    simp only [h.get hg (by simp)]
    split at hs
    ·simp only [Option.some.injEq] at hs; subst hs; exact ⟨_,rfl,h.setMap hg hB⟩
    ·simp only [Option.some.injEq] at hs; subst hs; exact ⟨_,rfl,h⟩
    ·cases hs
   ·cases hs
  ·cases hs
 ·cases hs
theorem abuiltin_le (h : Holds B σ H) (hB : ∀ b,B.get b ≠ .dead → wrt B b = false) {b : Builtin} (hb : b ≠ .append) {ts : List Nat} {args : List Value} {v : Value} {σ1 : AHeap} (hs : abuiltin E σ b ts args = some (v,σ1)) :
  ∃ H1,abuiltin E H b ts args = some (v,H1) ∧ Holds B σ1 H1 := by
 unfold abuiltin at hs ⊢
 split at hs
 ·split at hs
  ·split at hs
   ·simp only [Option.some.injEq,Prod.mk.injEq] at hs; obtain ⟨rfl,rfl⟩ := hs; exact ⟨_,rfl,h⟩
   ·cases hs
  ·cases hs
 ·split at hs
  ·split at hs
   ·simp only [Option.some.injEq,Prod.mk.injEq] at hs; obtain ⟨rfl,rfl⟩ := hs; exact ⟨_,rfl,h⟩
   ·cases hs
  ·cases hs
 ·split at hs
  ·split at hs
   ·simp only [Option.some.injEq,Prod.mk.injEq] at hs; obtain ⟨rfl,rfl⟩ := hs; exact ⟨_,rfl,h⟩
   ·cases hs
  ·cases hs
 ·split at hs
  ·split at hs
   ·simp only [Option.some.injEq,Prod.mk.injEq] at hs; obtain ⟨rfl,rfl⟩ := hs; exact ⟨_,rfl,h⟩
   ·cases hs
  ·cases hs
 ·split at hs
  ·split at hs
   ·rename_i h1 hg
    simp only [h1,h.get hg (by simp)]
    simp only [Option.some.injEq,Prod.mk.injEq] at hs; obtain ⟨rfl,rfl⟩ := hs; exact ⟨_,rfl,h⟩
   ·cases hs
  ·cases hs
 ·exact (hb rfl).elim
 ·simp only [Option.map_eq_some_iff] at hs
  obtain ⟨w,h1,h2⟩ := hs
  injection h2 with h2 h3; subst h2; subst h3
  exact ⟨H,by rw [h1]; rfl,h⟩
 ·simp only [Option.map_eq_some_iff] at hs
  obtain ⟨w,h1,h2⟩ := hs
  injection h2 with h2 h3; subst h2; subst h3
  exact ⟨H,by rw [h1]; rfl,h⟩
 ·split at hs
  ·simp only [Option.map_eq_some_iff] at hs
   obtain ⟨w,h1,h2⟩ := hs
   injection h2 with h2 h3; subst h2; subst h3
   obtain ⟨H1,h4,h5⟩ := adelete_le h hB h1
   exact ⟨H1,by simp only [h4,Option.map_some],h5⟩
  ·cases hs
 ·split at hs
  ·split at hs
   ·split at hs
    ·split at hs
     ·rename_i hc
      rw [if_pos hc]
      split at hs
      ·rename_i hn
       rw [if_pos hn]
       simp only [Option.some.injEq,Prod.mk.injEq] at hs; obtain ⟨rfl,rfl⟩ := hs; exact ⟨_,rfl,h⟩
      ·cases hs
     ·rename_i hc
      rw [if_neg hc]
      simp only [Option.map_eq_some_iff] at hs
      obtain ⟨w,h1,h2⟩ := hs
      injection h2 with h2 h3; subst h2; subst h3
      obtain ⟨H1,h4,h5⟩ := astoreAt_le h hB h1
      exact ⟨H1,by simp only [h4,Option.map_some],h5⟩
    ·cases hs
   ·cases hs
  ·cases hs
 ·cases hs

def isOff : Value → Bool
 | .int .. | .string _ | .func (.yield 1) _ _ => true
 | _ => false
theorem buildSlice_off {t n : Nat} {ps : List (Nat × Value)} {v : Value} {a : AHeap} (h : abuildSlice E .empty t n ps = some (v,a)) (hv : isOff v = true) (H : AHeap) : abuildSlice E H t n ps = some (v,H) := by
 unfold abuildSlice at h ⊢
 split at h
 ·split at h
  ·split at h
   ·cases h
   ·rename_i hc
    simp only [Option.map_eq_some_iff] at h
    obtain ⟨cs,h1,h2⟩ := h
    rw [if_neg hc,h1]
    split at h2
    ·rename_i hd
     injection h2 with h2 h3; subst h2
     simp only [Option.map_some,if_pos hd]
    ·injection h2 with h2 h3; subst h2; cases hv
  ·cases h
 ·cases h
theorem convert_off {s d : Nat} {x v : Value} {a : AHeap} (h : aconvert E .empty s d x = some (v,a)) (hv : isOff v = true) (H : AHeap) : aconvert E H s d x = some (v,H) := by
 unfold aconvert at h ⊢
 split at h
 ·split at h
  ·simp only [Option.some.injEq,Prod.mk.injEq] at h; obtain ⟨rfl,_⟩ := h; rfl
  ·simp only [Option.some.injEq,Prod.mk.injEq] at h; obtain ⟨rfl,_⟩ := h; rfl
  ·split at h
   ·split at h
    ·rename_i hd
     simp only [Option.some.injEq,Prod.mk.injEq] at h; obtain ⟨rfl,_⟩ := h
     simp only [if_pos hd]
    ·simp only [Option.some.injEq,Prod.mk.injEq] at h; obtain ⟨rfl,_⟩ := h; cases hv
   ·cases h
  ·split at h
   ·simp only [Option.some.injEq,Prod.mk.injEq] at h; obtain ⟨rfl,_⟩ := h; rfl
   ·cases h
  ·split at h
   ·split at h
    ·rename_i ht
     exfalso
     simp only [takeCells] at ht
     split at ht
     ·rename_i hg
      simp [AHeap.get,AHeap.empty,Tr.get,Tr.getF] at hg
     ·cases ht
    ·cases h
   ·cases h
  ·split at h
   ·split at h
    ·rename_i hc
     simp only [Option.map_eq_some_iff] at h
     obtain ⟨bs,h1,h2⟩ := h
     injection h2 with h2 h3; subst h2
     simp only [if_pos hc,h1,Option.map_some]
    ·cases h
   ·cases h
  ·cases h
 ·cases h
theorem call_eta {c : Go.Call} {d : Callee} (h : c.callee = d) : c = { callee := d,args := c.args,argTypes := c.argTypes } := by subst h; rfl
theorem sop_ok (h : Holds B σ H) (hB : ∀ b,B.get b ≠ .dead → wrt B b = false) {A : List Value} {op : Op} {K : Value → AHeap → Prop} (hs : afterS (CallS E B) (sop E B A σ op) σ K) :
  afterOp E (aop E A H op) H fun v H' => ∃ σ',Holds B σ' H' ∧ K v σ' := by
 have val : ∀ {v : Value} {H1 σ1 : AHeap},Holds B σ1 H1 → K v σ1 → afterOp E (some (.val v H1)) H fun v H' => ∃ σ',Holds B σ' H' ∧ K v σ' := fun h1 h2 => ⟨_,h1,h2⟩
 have hz : (σ.resize H.size).size = H.size := rfl
 have off : ∀ {r : Option (Value × AHeap)} {f : Nat → Option (Value × AHeap)} {o : Option (Value × AHeap)},(∀ v a,r = some (v,a) → isOff v = true → o = some (v,H)) →
   (∀ v σ1,f H.size = some (v,σ1) → ∃ H1,o = some (v,H1) ∧ Holds B σ1 H1) → afterS (CallS E B) (some (offHeap r σ f)) σ K → afterOp E (o.map fun p => .val p.1 p.2) H fun v H' => ∃ σ',Holds B σ' H' ∧ K v σ' := by
  intro r f o h1 h2 hs
  unfold offHeap at hs
  split at hs
  ·rw [h1 _ _ rfl rfl]; exact val h hs
  ·rw [h1 _ _ rfl rfl]; exact val h hs
  ·rw [h1 _ _ rfl rfl]; exact val h hs
  ·obtain ⟨v,σ1,h3,h4⟩ := hs _ h.top
   obtain ⟨H1,h5,h6⟩ := h2 v σ1 h3
   rw [h5]; exact val h6.resize h4
 unfold sop at hs
 split at hs
 ·-- alloc
  rename_i t
  cases hz : azero E t with
  | none => rw [hz] at hs; exact hs.elim
  | some z =>
   rw [hz] at hs
   simp only [aop,hz]
   exact val (h.alloc _) (hs _ h.fresh)
 ·-- box
  rename_i t x
  simp only [aop]
  unfold boxS at hs
  split
  ·rename_i hc
   rw [if_pos hc] at hs
   exact val h hs
  ·rename_i hc
   rw [if_neg hc] at hs
   split
   ·rename_i hc2
    rw [if_pos hc2] at hs
    exact val h hs
   ·rename_i hc2
    rw [if_neg hc2] at hs
    exact val (h.alloc _) (hs _ h.fresh)
 ·-- makeMap
  simp only [aop]
  exact val (h.alloc _) (hs _ h.fresh)
 ·-- load of a variable
  rename_i t g
  cases hl : aload E B t (aev A (.global g)) with
  | none => rw [hl] at hs; exact hs.elim
  | some v =>
   rw [hl] at hs
   simp only [aop,aload_base h hl,vres,Option.map_some]
   exact val h hs
 ·-- buildSlice
  simp only [aop,hres]
  unfold bsS at hs
  exact off (fun v a h1 hv => buildSlice_off h1 hv H) (fun v σ1 h1 => abuildSlice_le h.resize hz h1) hs
 ·-- makeSlice
  obtain ⟨v,σ1,h1,h2⟩ := hs _ h.top
  obtain ⟨H1,h3,h4⟩ := amakeSlice_le h.resize hz h1
  simp only [aop,hres,h3,Option.map_some]
  exact val h4.resize h2
 ·-- convert
  simp only [aop,hres]
  unfold convS at hs
  exact off (fun v a h1 hv => convert_off h1 hv H) (fun v σ1 h1 => aconvert_le h.resize hz h1) hs
 ·-- append
  obtain ⟨v,σ1,h1,h2⟩ := hs _ h.top
  obtain ⟨H1,h3,h4⟩ := aappend_le h.resize hB hz h1
  simp only [aop,abuiltin,hres,h3,Option.map_some]
  exact val h4.resize h2
 ·-- the others
  rename_i hn1 hn2 hn3 hn4 hn5 hn6 hn7 hn8
  have vr : ∀ {o o' : Option Value},(∀ v,o = some v → o' = some v) → afterS (CallS E B) (sres (vres σ o)) σ K → afterOp E (vres H o') H fun v H' => ∃ σ',Holds B σ' H' ∧ K v σ' := by
   intro o o' ho hs
   cases o with
   | none => exact hs.elim
   | some v => rw [ho v rfl]; exact val h hs
  have ur : ∀ {o o' : Option AHeap},(∀ σ1,o = some σ1 → ∃ H1,o' = some H1 ∧ Holds B σ1 H1) → afterS (CallS E B) (sres (ures o)) σ K → afterOp E (ures o') H fun v H' => ∃ σ',Holds B σ' H' ∧ K v σ' := by
   intro o o' ho hs
   cases o with
   | none => exact hs.elim
   | some σ1 => obtain ⟨H1,h1,h2⟩ := ho σ1 rfl; rw [h1]; exact val h2 hs
  have hr : ∀ {o o' : Option (Value × AHeap)},(∀ v σ1,o = some (v,σ1) → ∃ H1,o' = some (v,H1) ∧ Holds B σ1 H1) → afterS (CallS E B) (sres (hres o)) σ K → afterOp E (hres o') H fun v H' => ∃ σ',Holds B σ' H' ∧ K v σ' := by
   intro o o' ho hs
   cases o with
   | none => exact hs.elim
   | some p => obtain ⟨v,σ1⟩ := p; obtain ⟨H1,h1,h2⟩ := ho v σ1 rfl; rw [h1]; exact val h2 hs
  unfold aop at hs ⊢
  split at hs
  ·exact val h hs
  ·exact val h hs
  ·split at hs
   ·exact val h hs
   ·exact hs.elim
  ·exact (hn1 _ rfl).elim
  ·exact (hn2 _ _ rfl).elim
  ·exact vr (fun v h => h) hs
  ·exact (hn5 _ _ _ rfl).elim
  ·exact vr (fun v hv => aload_le h hv) hs
  ·exact ur (fun σ1 h1 => astore_le h hB h1) hs
  ·split at hs
   ·exact val h hs
   ·exact val h hs
   ·exact val h hs
   ·exact hs.elim
  ·exact vr (fun v hv => abin_le h hv) hs
  ·exact vr (fun v h => h) hs
  ·exact (hn7 _ _ _ rfl).elim
  ·split at hs
   ·split at hs
    ·exact hs.elim
    ·exact val h hs
   ·exact hs.elim
  ·exact val h hs
  ·exact (hn3 _ rfl).elim
  ·exact (hn6 _ _ _ rfl).elim
  ·exact vr (fun v hv => aslice_le h hv) hs
  ·exact vr (fun v h => h) hs
  ·exact vr (fun v h => h) hs
  ·exact vr (fun v h => h) hs
  ·exact vr (fun v h => h) hs
  ·exact vr (fun v hv => alookup_le h hv) hs
  ·exact ur (fun σ1 h1 => amapUpdate_le h hB h1) hs
  ·split at hs
   ·exact vr (fun v h => h) hs
   ·exact hs.elim
  ·split at hs
   ·rename_i c b hc
    refine hr (fun v σ1 h1 => abuiltin_le h hB (fun e => ?_) h1) hs
    subst e
    exact hn8 _ _ (congrArg Op.call (call_eta hc))
   ·split at hs
    ·exact hs _ h
    ·exact hs.elim
   ·exact hs.elim
  ·exact hs.elim

theorem opsS_ok (hB : ∀ b,B.get b ≠ .dead → wrt B b = false) {all : Array Oper} : ∀ {l : List Oper} {A : List Value} {σ H : AHeap} {K : List Value → AHeap → Prop},Holds B σ H → OpsS E B all l A σ K →
  OpsW E all l A H fun A' H' => ∃ σ',Holds B σ' H' ∧ K A' σ'
 | [],A,σ,H,K,h,hs => O_nil.2 ⟨σ,h,hs⟩
 | o :: l,A,σ,H,K,h,hs => by
  refine O_cons.2 ?_
  unfold OpsS at hs
  split
  ·rename_i hw
   rw [if_pos hw] at hs
   have := sop_ok h hB hs
   cases hop : aop E A H o.op with
   | none => rw [hop] at this; exact this.elim
   | some r =>
    rw [hop] at this
    cases r with
    | val v H1 =>
     obtain ⟨σ1,h1,h2⟩ := this
     exact opsS_ok hB h1 h2
    | call f args =>
     exact CallW.mono this fun v H1 ⟨σ1,h1,h2⟩ => opsS_ok hB h1 h2
  ·rename_i hw
   rw [if_neg hw] at hs
   exact opsS_ok hB h hs
def TrRel (B : AHeap) : List (List Value × AHeap) → List (List Value × AHeap) → Prop
 | [],[] => True
 | p :: l,q :: m => p.1 = q.1 ∧ Holds B q.2 p.2 ∧ TrRel B l m
 | _,_ => False
theorem trS_ok (hB : ∀ b,B.get b ≠ .dead → wrt B b = false) {all : Array Oper} : ∀ {l : List Oper} {A : List Value} {σ H : AHeap} {P : List (List Value × AHeap) → Prop},Holds B σ H → TrS E B all l A σ P →
  TrW E all l A H fun tr => ∃ ts,TrRel B tr ts ∧ P ts
 | [],A,σ,H,P,h,hs => T_nil.2 ⟨[(A,σ)],⟨rfl,h,trivial⟩,hs⟩
 | o :: l,A,σ,H,P,h,hs => by
  have mono : ∀ {H1 : AHeap} {A1 : List Value},TrW E all l A1 H1 (fun tr => ∃ ts,TrRel B tr ts ∧ P ((A,σ) :: ts)) → TrW E all l A1 H1 (consQ (A,H) fun tr => ∃ ts,TrRel B tr ts ∧ P ts) := by
   rintro H1 A1 ⟨k,tr,h1,ts,h2,h3⟩
   exact ⟨k,tr,h1,(A,σ) :: ts,⟨rfl,h,h2⟩,h3⟩
  refine T_cons.2 ?_
  unfold TrS at hs
  split
  ·rename_i hw
   rw [if_pos hw] at hs
   have := sop_ok h hB hs
   cases hop : aop E A H o.op with
   | none => rw [hop] at this; exact this.elim
   | some r =>
    rw [hop] at this
    cases r with
    | val v H1 =>
     obtain ⟨σ1,h1,h2⟩ := this
     exact mono (trS_ok hB h1 h2)
    | call f args =>
     exact CallW.mono this fun v H1 ⟨σ1,h1,h2⟩ => mono (trS_ok hB h1 h2)
  ·rename_i hw
   rw [if_neg hw] at hs
   exact mono (trS_ok hB h hs)
theorem TrRel.get : ∀ {tr ts : List (List Value × AHeap)},TrRel B tr ts → ∀ (i : Nat) {q : List Value × AHeap},ts[i]? = some q → ∃ H,tr[i]? = some (q.1,H) ∧ Holds B q.2 H
 | [],[],_,i,q,h => by simp at h
 | p :: l,r :: m,⟨h1,h2,h3⟩,0,q,h => by
  simp only [List.getElem?_cons_zero,Option.some.injEq] at h; subst h
  exact ⟨p.2,by rw [← h1]; rfl,h2⟩
 | p :: l,r :: m,⟨h1,h2,h3⟩,i + 1,q,h => by
  simp only [List.getElem?_cons_succ] at h ⊢
  exact h3.get i h
 | [],_ :: _,h,_,_,_ => h.elim
 | _ :: _,[],h,_,_,_ => h.elim
theorem TrRel.last : ∀ {tr ts : List (List Value × AHeap)},TrRel B tr ts → ∀ {q : List Value × AHeap},ts.getLast? = some q → ∃ H,tr.getLast? = some (q.1,H) ∧ Holds B q.2 H
 | [],[],_,q,h => by simp at h
 | [p],[r],⟨h1,h2,h3⟩,q,h => by
  simp only [List.getLast?_singleton,Option.some.injEq] at h; subst h
  exact ⟨p.2,by rw [← h1]; rfl,h2⟩
 | p :: p' :: l,r :: r' :: m,⟨h1,h2,h3⟩,q,h => by
  rw [List.getLast?_cons_cons] at h ⊢
  exact h3.last h
 | [],_ :: _,h,_,_ => h.elim
 | _ :: _,[],h,_,_ => h.elim
 | [_],_ :: _ :: _,⟨_,_,h⟩,_,_ => h.elim
 | _ :: _ :: _,[_],⟨_,_,h⟩,_,_ => h.elim
theorem oszeq_of {x y : AObj} (h : y = x) : oszeq x y = true := by subst h; exact oszeq_refl _
theorem floatS_ok {ops : Array Oper} {tr ts : List (List Value × AHeap)} (h : TrRel B tr ts) {p : Nat × Nat} (hf : floatS B ops ts p = true) : floatOk ops tr p = true := by
 unfold floatS at hf
 split at hf
 ·rename_i A σ0 o A1 σ1 A2 σ2 e1 e2 e3 e4
  obtain ⟨H0,k1,g1⟩ := h.get _ e1
  obtain ⟨H1,k2,g2⟩ := h.get _ e3
  obtain ⟨H2,k3,g3⟩ := h.get _ e4
  simp only [floatOk,k1,k2,k3,e2]
  simp only [Bool.or_eq_true,List.all_eq_true,Bool.and_eq_true] at hf ⊢
  rcases hf with hf | hf
  ·exact Or.inl hf
  ·refine Or.inr fun b hb => ?_
   rcases hf b hb with hb' | ⟨⟨h4,h5⟩,h6⟩
   ·have hb' : deadO (B.get b) = false := by simpa using hb'
    have f1 := g2.base b (deadO_iff.1 hb')
    have f2 := g3.base b (deadO_iff.1 hb')
    split
    ·exact oszeq_of (by rw [f1.1,f2.1])
    ·exact oeq_of (by rw [f1.1,f2.1])
   ·have h4 : deadO (σ1.get b) = false := by simpa using h4
    have h5 : deadO (σ2.get b) = false := by simpa using h5
    have f1 := g2.part b (deadO_iff.1 h4)
    have f2 := g3.part b (deadO_iff.1 h5)
    rw [f1.1,f2.1]; exact h6
 ·cases hf
end
end AbsYtkhcbbpfchgemaaDoor

/-
 Code,loops and calls over a part of the heap.
-/
namespace AbsYtkhcbbpfchgemaaDoor
set_option linter.unusedVariables false
set_option linter.unusedSimpArgs false
set_option linter.unusedSectionVars false
open Go

section
variable {E : Env} {B σ σ' H : AHeap}

theorem aput_other {A : List Value} {d : Option Tmp} {v : Value} {t : Nat} (h : d ≠ some t) : (aput A d v).getD t undef = A.getD t undef := by
 cases d with
 | none => rfl
 | some d => simp only [aput,List.getD]; rw [List.getElem?_set_ne (by intro e; exact h (by rw [e]))]
theorem runOp_keep {call : Call} {all : Array Oper} {o : Oper} {A A' : List Value} {H H' : AHeap} (h : runOp E call all o A H = some (A',H')) {t : Nat} (ht : o.dst ≠ some t) : A'.getD t undef = A.getD t undef := by
 obtain ⟨v,hv⟩ := (came h).put
 rw [hv,aput_other ht]
theorem runOps_keep {call : Call} {all : Array Oper} {t : Nat} : ∀ {l : List Oper} {A A' : List Value} {H H' : AHeap},runOps E call all l A H = some (A',H') → t ∉ l.filterMap (·.dst) → A'.getD t undef = A.getD t undef
 | [],A,A',H,H',h,ht => by simp only [runOps,Option.some.injEq,Prod.mk.injEq] at h; rw [h.1]
 | o :: l,A,A',H,H',h,ht => by
  simp only [runOps] at h
  split at h
  ·rename_i A1 H1 h1
   have ho : o.dst ≠ some t := by
    intro e; apply ht; simp [List.filterMap_cons,e]
   have hl : t ∉ l.filterMap (·.dst) := by
    intro e; apply ht; rw [List.filterMap_cons]; split
    ·exact e
    ·exact List.mem_cons_of_mem _ e
   rw [runOps_keep h hl,runOp_keep h1 ho]
  ·cases h
theorem exec_keep {t : Nat} : ∀ {k : Nat} {c : Code} {A : List Value} {H : AHeap} {e : AExit} {A' : List Value} {H' : AHeap},exec E k c A H = some (e,A',H') → t ∉ wr c → A'.getD t undef = A.getD t undef := by
 intro k
 induction k with
 | zero => intro c A H e A' H' h; cases h
 | succ k ih =>
  intro c A H e A' H' h ht
  cases c <;> simp only [exec] at h <;> try (cases h; done)
  case skip => simp only [Option.some.injEq,Prod.mk.injEq] at h; rw [h.2.1]
  case label => simp only [Option.some.injEq,Prod.mk.injEq] at h; rw [h.2.1]
  case exit => simp only [Option.some.injEq,Prod.mk.injEq] at h; rw [h.2.1]
  case ret => simp only [Option.some.injEq,Prod.mk.injEq] at h; rw [h.2.1]
  case seq a b =>
   simp only [wr,List.mem_append,not_or] at ht
   split at h
   ·rename_i h1; rw [ih h ht.2,ih h1 ht.1]
   ·exact ih h ht.1
  case cond x a b =>
   simp only [wr,List.mem_append,not_or] at ht
   split at h
   ·exact ih h ht.1
   ·exact ih h ht.2
   ·cases h
  case block id c =>
   simp only [wr] at ht
   split at h
   ·rename_i h1
    split at h
    ·simp only [Option.some.injEq,Prod.mk.injEq] at h; rw [← h.2.1,ih h1 ht]
    ·simp only [Option.some.injEq,Prod.mk.injEq] at h; rw [← h.2.1,ih h1 ht]
   ·exact ih h ht
  case loop c =>
   have ht' : t ∉ wr c := by simpa only [wr] using ht
   split at h
   ·rename_i h1; rw [ih h ht,ih h1 ht']
   ·exact ih h ht'
  case scope c => simp only [wr] at ht; exact ih h ht
  case region id ops draw =>
   simp only [wr] at ht
   simp only [Option.map_eq_some_iff,Prod.mk.injEq] at h
   obtain ⟨⟨A1,H1⟩,h1,_,rfl,rfl⟩ := h
   cases draw with
   | false => exact runOps_keep (by simpa using h1) ht
   | true =>
    have h1 : runDraw E (callF E (exec E k)) ops A H = some (A1,H1) := by simpa using h1
    have key : ∀ (l : List Oper) (A : List Value) (H : AHeap) (tr : List (List Value × AHeap)),runTr E (callF E (exec E k)) ops l A H = some tr → tr.getLast? = some (A1,H1) → runOps E (callF E (exec E k)) ops l A H = some (A1,H1) := by
     intro l
     induction l with
     | nil => intro A H tr h2 h3; simp only [runTr,Option.some.injEq] at h2; subst h2; simpa [runOps] using h3
     | cons o l ihl =>
      intro A H tr h2 h3
      simp only [runTr] at h2
      simp only [runOps]
      split at h2
      ·rename_i A2 H2 h4
       simp only [Option.map_eq_some_iff] at h2
       obtain ⟨tr2,h5,rfl⟩ := h2
       refine ihl _ _ _ h5 ?_
       cases tr2 with
       | nil => have := (runTr_spec _ _ _ _ h5).1; simp at this
       | cons p ps => simpa [List.getLast?_cons_cons] using h3
      ·cases h2
    unfold runDraw at h1
    split at h1
    ·rename_i tr h2
     split at h1
     ·exact runOps_keep (key _ _ _ _ h2 h1) ht
     ·cases h1
    ·cases h1

theorem codeS_ok (hB : ∀ b,B.get b ≠ .dead → wrt B b = false) : ∀ {c : Code} {A : List Value} {σ H : AHeap} {Q : AExit → List Value → AHeap → Prop},Holds B σ H → CodeS E B c A σ Q →
  CodeW E c A H fun e A' H' => ∃ σ',Holds B σ' H' ∧ Q e A' σ'
 | .skip,A,σ,H,Q,h,hs => W_skip.2 ⟨σ,h,hs⟩
 | .label _,A,σ,H,Q,h,hs => W_label.2 ⟨σ,h,hs⟩
 | .exit _,A,σ,H,Q,h,hs => W_exit.2 ⟨σ,h,hs⟩
 | .ret,A,σ,H,Q,h,hs => W_ret.2 ⟨σ,h,hs⟩
 | .seq a b,A,σ,H,Q,h,hs => by
  have hs : CodeS E B a A σ (thenQ Q fun A σ => CodeS E B b A σ Q) := by simpa only [CodeS] using hs
  refine W_seq.2 ((codeS_ok hB h hs).mono fun e A' H' ⟨σ1,h1,h2⟩ => ?_)
  cases e with
  | normal => exact codeS_ok hB h1 h2
  | exit id => exact ⟨σ1,h1,h2⟩
  | ret => exact ⟨σ1,h1,h2⟩
 | .cond x a b,A,σ,H,Q,h,hs => by
  refine W_cond.2 ?_
  unfold CodeS at hs
  cases hx : aev A x <;> rw [hx] at hs <;> try (exact hs.elim)
  exact ⟨fun e => codeS_ok hB h (hs.1 e),fun e => codeS_ok hB h (hs.2 e)⟩
 | .block id c,A,σ,H,Q,h,hs => by
  have hs : CodeS E B c A σ (blockQ id Q) := by simpa only [CodeS] using hs
  refine W_block.2 ((codeS_ok hB h hs).mono fun e A' H' ⟨σ1,h1,h2⟩ => ?_)
  cases e with
  | normal => exact ⟨σ1,h1,h2⟩
  | ret => exact ⟨σ1,h1,h2⟩
  | exit id' =>
   simp only [blockQ] at h2 ⊢
   split
   ·rename_i e; rw [if_pos e] at h2; exact ⟨σ1,h1,h2⟩
   ·rename_i e; rw [if_neg e] at h2; exact ⟨σ1,h1,h2⟩
 | .scope c,A,σ,H,Q,h,hs => W_scope.2 (codeS_ok hB h (by simpa only [CodeS] using hs))
 | .loop c,A,σ,H,Q,h,hs => by
  unfold CodeS at hs
  obtain ⟨n,f,rfl,I,k,σ0,hl,hi,hstep⟩ := hs
  have key : ∀ k f' σ' H,Holds B σ' H → I k f' σ' → (∀ t,t < n → t ∉ wr c → f' t = f t) → CodeW E (.loop c) (L n f') H fun e A' H' => ∃ σ',Holds B σ' H' ∧ Q e A' σ' := by
   intro k
   induction k using Nat.strongRecOn with
   | ind k ih =>
    intro f' σ1 H1 h1 hi1 hf1
    obtain ⟨m,e,A',H',hx,σ2,h2,h3⟩ := codeS_ok hB h1 (hstep k f' σ1 hi1 hf1)
    refine w_loop ⟨m,e,A',H',hx,?_⟩
    cases e with
    | exit id => exact ⟨σ2,h2,h3⟩
    | ret => exact ⟨σ2,h2,h3⟩
    | normal =>
     obtain ⟨f2,k2,σ3,rfl,hk,hle,hi2⟩ := h3
     refine ih k2 hk f2 σ3 H' (h2.le hle) hi2 fun t ht htw => ?_
     have := exec_keep hx htw
     rw [L_getD ht,L_getD ht] at this
     rw [this]; exact hf1 t ht htw
  exact key k f σ0 H (h.le hl) hi fun _ _ _ => rfl
 | .region id ops draw,A,σ,H,Q,h,hs => by
  cases draw with
  | false =>
   have hs : OpsS E B ops ops.toList A σ (Q .normal) := by simpa only [CodeS,Bool.false_eq_true,if_false] using hs
   exact W_region.2 (opsS_ok hB h hs)
  | true =>
   have hs : TrS E B ops ops.toList A σ (fun tr => (floatPairs ops).all (floatS B ops tr) = true ∧ ∃ A' σ',tr.getLast? = some (A',σ') ∧ Q .normal A' σ') := by simpa only [CodeS,if_true] using hs
   refine W_draw.2 ?_
   obtain ⟨k,tr,h1,ts,h2,h3,A',σ1,h4,h5⟩ := trS_ok hB h hs
   obtain ⟨H1,h6,h7⟩ := h2.last h4
   refine ⟨k,tr,h1,?_,A',H1,h6,σ1,h7,h5⟩
   rw [List.all_eq_true] at h3 ⊢
   exact fun p hp => floatS_ok h2 (h3 p hp)
 | .goto _,A,σ,H,Q,h,hs => by simp only [CodeS] at hs
 | .refuse _,A,σ,H,Q,h,hs => by simp only [CodeS] at hs
 | .rangeFunc ..,A,σ,H,Q,h,hs => by simp only [CodeS] at hs

variable {A : List Value} {Q : AExit → List Value → AHeap → Prop}
def thenS (E : Env) (B : AHeap) (b : Code) (Q : AExit → List Value → AHeap → Prop) : AExit → List Value → AHeap → Prop := thenQ Q fun A σ => CodeS E B b A σ Q
theorem thenS_normal {b : Code} : thenS E B b Q .normal A σ ↔ CodeS E B b A σ Q := Iff.rfl
theorem thenS_exit {b : Code} {id : Nat} : thenS E B b Q (.exit id) A σ ↔ Q (.exit id) A σ := Iff.rfl
theorem thenS_ret {b : Code} : thenS E B b Q .ret A σ ↔ Q .ret A σ := Iff.rfl
theorem S_skip : CodeS E B .skip A σ Q ↔ Q .normal A σ := by simp only [CodeS]
theorem S_exit {id : Nat} : CodeS E B (.exit id) A σ Q ↔ Q (.exit id) A σ := by simp only [CodeS]
theorem S_ret : CodeS E B .ret A σ Q ↔ Q .ret A σ := by simp only [CodeS]
theorem S_seq {a b : Code} : CodeS E B (.seq a b) A σ Q ↔ CodeS E B a A σ (thenS E B b Q) := by simp only [CodeS]; rfl
theorem S_block {id : Nat} {c : Code} : CodeS E B (.block id c) A σ Q ↔ CodeS E B c A σ (blockQ id Q) := by simp only [CodeS]
def condS (E : Env) (B : AHeap) (v : Value) (a b : Code) (A : List Value) (σ : AHeap) (Q : AExit → List Value → AHeap → Prop) : Prop := condW v (CodeS E B a A σ Q) (CodeS E B b A σ Q)
theorem S_cond {x : Operand} {a b : Code} : CodeS E B (.cond x a b) A σ Q ↔ condS E B (aev A x) a b A σ Q := by simp only [CodeS]; rfl
theorem CS_true {a b : Code} : condS E B (.bool true) a b A σ Q ↔ CodeS E B a A σ Q := condW_true
theorem CS_false {a b : Code} : condS E B (.bool false) a b A σ Q ↔ CodeS E B b A σ Q := condW_false
theorem S_region {id : Nat} {ops : Array Oper} : CodeS E B (.region id ops false) A σ Q ↔ OpsS E B ops ops.toList A σ (Q .normal) := by simp only [CodeS]; exact Iff.rfl
section
variable {all : Array Oper} {l : List Oper} {K : List Value → AHeap → Prop}
theorem OS_nil : OpsS E B all [] A σ K ↔ K A σ := Iff.rfl
def opSK (E : Env) (B : AHeap) (all : Array Oper) (dst : Option Tmp) (l : List Oper) (A : List Value) (K : List Value → AHeap → Prop) (v : Value) (σ : AHeap) : Prop := OpsS E B all l (aput A dst v) σ K
theorem KS_op {dst : Option Tmp} {v : Value} : opSK E B all dst l A K v σ ↔ OpsS E B all l (aput A dst v) σ K := Iff.rfl
def afterOpS (E : Env) (B : AHeap) (r : Option SRes) (σ : AHeap) (K : Value → AHeap → Prop) : Prop := afterS (CallS E B) r σ K
theorem OS_op {dst : Option Tmp} {op : Op} {ty : TypeId} {pos : String} {after : Array Edge} : OpsS E B all (⟨dst,op,ty,pos,after,none⟩ :: l) A σ K ↔ afterOpS E B (sop E B A σ op) σ (opSK E B all dst l A K) := by
 simp only [OpsS,Region.wanted,if_true]; exact Iff.rfl
def guardS (E : Env) (B : AHeap) (y : Option Bool) (b : Bool) (op : Op) (all : Array Oper) (dst : Option Tmp) (l : List Oper) (A : List Value) (σ : AHeap) (K : List Value → AHeap → Prop) : Prop :=
 if y == some b then afterOpS E B (sop E B A σ op) σ (opSK E B all dst l A K) else OpsS E B all l (aput A dst undef) σ K
theorem OS_guard {dst : Option Tmp} {op : Op} {ty : TypeId} {pos : String} {after : Array Edge} {g : Nat} {b : Bool} : OpsS E B all (⟨dst,op,ty,pos,after,some (g,b)⟩ :: l) A σ K ↔ guardS E B (ayield all A g) b op all dst l A σ K := by
 simp only [OpsS]; exact Iff.rfl
theorem GS_true {op : Op} {dst : Option Tmp} {b : Bool} : guardS E B (some b) b op all dst l A σ K ↔ afterOpS E B (sop E B A σ op) σ (opSK E B all dst l A K) := by simp [guardS]
theorem GS_tf {op : Op} {dst : Option Tmp} : guardS E B (some true) false op all dst l A σ K ↔ OpsS E B all l (aput A dst undef) σ K := by simp [guardS]
theorem GS_ft {op : Op} {dst : Option Tmp} : guardS E B (some false) true op all dst l A σ K ↔ OpsS E B all l (aput A dst undef) σ K := by simp [guardS]
theorem AS_val {v : Value} {σ' : AHeap} {K : Value → AHeap → Prop} : afterOpS E B (some (.val v σ')) σ K ↔ K v σ' := Iff.rfl
theorem AS_call {f : Nat} {args : List Value} {K : Value → AHeap → Prop} : afterOpS E B (some (.call f args)) σ K ↔ CallS E B f args σ K := Iff.rfl
theorem AS_new {o : AObj} {v : Nat → Value} {K : Value → AHeap → Prop} : afterOpS E B (some (.new o v)) σ K ↔ ∀ b,σ.get b = .dead → K (v b) (σ.set b o) := Iff.rfl
theorem AS_any {f : Nat → Option (Value × AHeap)} {K : Value → AHeap → Prop} : afterOpS E B (some (.any f)) σ K ↔ ∀ b,(∀ c,σ.get c ≠ .dead → c < b) → ∃ v H',f b = some (v,H') ∧ K v (H'.resize σ.size) := Iff.rfl
end
def outS (E : Env) (rs : List ResultVar) (Q : Value → AHeap → Prop) (e : AExit) (A : List Value) (σ : AHeap) : Prop :=
 match e with
 | .exit _ => False
 | _ => ∃ vs,results E A σ rs = some vs ∧ Q (oneOf vs) σ
theorem outS_normal {rs : List ResultVar} {Q : Value → AHeap → Prop} : outS E rs Q .normal A σ ↔ ∃ vs,results E A σ rs = some vs ∧ Q (oneOf vs) σ := Iff.rfl
theorem outS_ret {rs : List ResultVar} {Q : Value → AHeap → Prop} : outS E rs Q .ret A σ ↔ ∃ vs,results E A σ rs = some vs ∧ Q (oneOf vs) σ := Iff.rfl
theorem results_le (h : Holds B σ H) {A : List Value} : ∀ {rs : List ResultVar} {vs : List Value},results E A σ rs = some vs → results E A H rs = some vs
 | [],vs,hs => hs
 | .tmp t :: rs,vs,hs => by
  simp only [results,Option.map_eq_some_iff] at hs ⊢
  obtain ⟨r,h1,h2⟩ := hs
  exact ⟨r,results_le h h1,h2⟩
 | .cell a t :: rs,vs,hs => by
  simp only [results] at hs ⊢
  split at hs
  ·rename_i h1 h2
   rw [aload_le h h1,results_le h h2]; exact hs
  ·cases hs
def downS (Q : Value → AHeap → Prop) (v : Value) (σ : AHeap) : Prop := ∃ σ',Le σ' σ ∧ Q v σ'
theorem S_callS (hB : ∀ b,B.get b ≠ .dead → wrt B b = false) {f : Nat} {args : List Value} {fn : Func} {n : Nat} {rs : List ResultVar} {Q : Value → AHeap → Prop} (fl : List Nat) (hs : E.sp f = none) (hf : E.fn.get f = some fn) (hb : fn.body = some (bodyOf fn)) (hn : fn.ntmps = n) (hr : fn.results.toList = rs)
  (hd : norm (bodyOf fn) = strip fl (bodyOf fn)) (hl : args.length ≤ n) (h : CodeS E B (strip fl (bodyOf fn)) (L n (ofL args)) σ (outS E rs fun v => downS Q (leave E f v))) : CallS E B f args σ Q := by
 intro H hH
 refine W_callS fl hs hf hb hn hr hd hl ((codeS_ok hB hH h).mono fun e A H' ⟨σ',h1,h2⟩ => ?_)
 cases e with
 | exit id => exact h2.elim
 | normal =>
  obtain ⟨vs,h3,σ2,h4,h5⟩ := h2
  exact ⟨vs,results_le h1 h3,σ2,h1.le h4,h5⟩
 | ret =>
  obtain ⟨vs,h3,σ2,h4,h5⟩ := h2
  exact ⟨vs,results_le h1 h3,σ2,h1.le h4,h5⟩
theorem S_loop {c : Code} {n : Nat} {f : Nat → Value} (I : Nat → (Nat → Value) → AHeap → Prop) (k : Nat) {σ0 : AHeap} (hl : Le σ0 σ) (h0 : I k f σ0)
  (h : ∀ k f' σ',I k f' σ' → (∀ t,t < n → t ∉ wr c → f' t = f t) → CodeS E B c (L n f') σ' (thenQ Q (nextI I n k))) : CodeS E B (.loop c) (L n f) σ Q := by
 unfold CodeS
 exact ⟨n,f,rfl,I,k,σ0,hl,h0,h⟩
end
end AbsYtkhcbbpfchgemaaDoor
