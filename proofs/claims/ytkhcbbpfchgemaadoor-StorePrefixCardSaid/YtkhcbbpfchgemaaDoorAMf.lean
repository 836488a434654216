/-
  An abstract machine over the model's code, with one soundness theorem (AbsM.call_ok): part AMf.
-/
import Derived.Test.YtkhcbbpfchgemaaDoorAMe
import Derived.Test.YtkhcbbpfchgemaaDoorAMd
/-
 The walk's rules over a part of the heap,for the simplifier.
-/
namespace AbsYtkhcbbpfchgemaaDoor
set_option linter.unusedVariables false
set_option linter.unusedSimpArgs false
set_option linter.unusedSectionVars false
open Go

theorem EnvOk.withOf {E E0 : Env} (hE : EnvOk E) (h0 : EnvOk E0) (hP : E.P = E0.P) (hng : E.ng = E0.ng) (hnb : E.nb = E0.nb) {B : AHeap} (hB : baseOk E0 B = true) (fs : List (Nat × Value))
  (hfs : ∀ p ∈ fs,closedV p.2 = true ∧ ∃ k H1,callF E0 (exec E0 k) p.1 [] B = some (p.2,H1)) : EnvOk (E.worked B fs) where
 ty := ⟨hE.ty.ty⟩
 fn f F h := by
  obtain ⟨h1,h2,h3⟩ := hE.fn f F h
  exact ⟨h1,h2,h3⟩
 mixed := hE.mixed
 sp f g args H r H' hg h := by
  simp only [Env.worked] at hg
  split at hg
  ·rename_i p hp
   injection hg with hg
   subst hg
   have h : (if args.isEmpty && sameBase B E.nb H then some (p.2,H) else none) = some (r,H') := h
   split at h
   ·rename_i ha
    injection h with h; injection h with e1 e2; subst e1; subst e2
    simp only [Bool.and_eq_true] at ha
    have hm := List.mem_of_find?_eq_some hp
    have hf : p.1 = f := Nat.eq_of_beq_eq_true (by simpa using List.find?_some hp)
    obtain ⟨hcl,k,H1,hr⟩ := hfs p hm
    have : args = [] := List.isEmpty_iff.1 ha.1
    subst this; subst hf
    exact ⟨Nat.le_refl _,closed_sim (E' := E.worked B fs) h0 hB hP hng hnb hr hcl H (by rw [← hnb]; exact ha.2)⟩
   ·cases h
  ·obtain ⟨h1,h2⟩ := hE.sp f g args H r H' hg h
   refine ⟨h1,fun ι w args' hR hD hargs => ?_⟩
   rcases h2 ι w args' (hR.env rfl rfl) hD hargs with ⟨h3,h4⟩ | ⟨r',w',h3,v',ι',h4,h5,h6,h7⟩
   ·exact .inl ⟨h3,h4.mono fun e w' ⟨v',ι',a1,a2,a3,a4⟩ => ⟨v',ι',a1,a2,a3.env rfl rfl,a4⟩⟩
   ·exact .inr ⟨r',w',h3,v',ι',h4,h5,h6.env rfl rfl,h7⟩

section
variable {E : Env} {B σ : AHeap} {A : List Value}
theorem S_callK (hB : ∀ b,B.get b ≠ .dead → wrt B b = false) {f : Nat} {args : List Value} {fn : Func} {n : Nat} {rs : List ResultVar} {Q : Value → AHeap → Prop} (fl : List Nat) (hk : E.kp f = true) (hs : E.sp f = none) (hf : E.fn.get f = some fn) (hb : fn.body = some (bodyOf fn)) (hn : fn.ntmps = n) (hr : fn.results.toList = rs)
  (hd : norm (bodyOf fn) = strip fl (bodyOf fn)) (hl : args.length ≤ n) (h : CodeS E B (strip fl (bodyOf fn)) (L n (ofL args)) σ (outS E rs (downS Q))) : CallS E B f args σ Q := by
 refine S_callS hB fl hs hf hb hn hr hd hl ?_
 have : (fun v => downS Q (leave E f v)) = downS Q := by funext v; simp only [leave,hk,if_true]
 rw [this]; exact h
theorem W_callK {H : AHeap} {f : Nat} {args : List Value} {fn : Func} {n : Nat} {rs : List ResultVar} {Q : Value → AHeap → Prop} (fl : List Nat) (hk : E.kp f = true) (hs : E.sp f = none) (hf : E.fn.get f = some fn) (hb : fn.body = some (bodyOf fn)) (hn : fn.ntmps = n) (hr : fn.results.toList = rs)
  (hd : norm (bodyOf fn) = strip fl (bodyOf fn)) (hl : args.length ≤ n) (h : CodeW E (strip fl (bodyOf fn)) (L n (ofL args)) H (retQ E rs Q)) : CallW E f args H Q := by
 refine W_callS fl hs hf hb hn hr hd hl ?_
 have : (fun v => Q (leave E f v)) = Q := by funext v; simp only [leave,hk,if_true]
 rw [this]; exact h
theorem Holds.ext {H H' : AHeap} (h : Holds B σ H) (hx : Ext H H') : Holds B σ H' :=
 ⟨fun b hb => by have := h.base b hb; exact ⟨by rw [hx.get b this.2,this.1],Nat.lt_of_lt_of_le this.2 hx.size⟩,
  fun b hb => by have := h.part b hb; exact ⟨by rw [hx.get b this.2,this.1],Nat.lt_of_lt_of_le this.2 hx.size⟩⟩
theorem downS_here {Q : Value → AHeap → Prop} {v : Value} (h : Q v σ) : downS Q v σ := ⟨σ,Le.refl σ,h⟩
theorem downS_le {Q : Value → AHeap → Prop} {v : Value} {σ' : AHeap} (hl : Le σ' σ) (h : Q v σ') : downS Q v σ := ⟨σ',hl,h⟩
theorem Le.new {b : Nat} {o : AObj} (h : σ.get b = .dead) : Le σ (σ.set b o) := fun c hc => by
 rw [AHeap.get_set_ne]; intro e; subst e; exact hc h
theorem Le.new' {τ : AHeap} {b : Nat} {o : AObj} (hl : Le σ τ) (h : σ.get b = .dead) : Le σ (τ.set b o) := fun c hc => by
 rw [AHeap.get_set_ne _ _ (by intro e; subst e; exact hc h)]; exact hl c hc
theorem Le.set {τ : AHeap} {b : Nat} {o : AObj} (hl : Le σ τ) : Le (σ.set b o) (τ.set b o) := fun c hc => by
 by_cases e : b = c
 ·subst e; rw [AHeap.get_set_same,AHeap.get_set_same]
 ·rw [AHeap.get_set_ne _ _ e] at hc ⊢; rw [AHeap.get_set_ne _ _ e]; exact hl c hc

theorem sop_move {x : Operand} : sop E B A σ (.move x) = some (.val (aev A x) σ) := rfl
theorem sop_assign {x : Operand} : sop E B A σ (.assign x) = some (.val (aev A x) σ) := rfl
def pickS (c a b : Value) : Option Value := match c with
 | .bool t => some (if t then a else b)
 | _ => none
def vS (σ : AHeap) (o : Option Value) : Option SRes := match o with
 | some v => some (.val v σ)
 | none => none
def uS (o : Option AHeap) : Option SRes := match o with
 | some σ => some (.val undef σ)
 | none => none
def pS (o : Option (Value × AHeap)) : Option SRes := match o with
 | some (v,σ) => some (.val v σ)
 | none => none
theorem vS_some {v : Value} : vS σ (some v) = some (.val v σ) := rfl
theorem uS_some {σ' : AHeap} : uS (some σ') = some (.val undef σ') := rfl
theorem pS_some {v : Value} {σ' : AHeap} : pS (some (v,σ')) = some (.val v σ') := rfl
theorem sres_vres {o : Option Value} : sres (vres σ o) = vS σ o := by cases o <;> rfl
theorem sres_ures {o : Option AHeap} : sres (ures o) = uS o := by cases o <;> rfl
theorem sres_hres {o : Option (Value × AHeap)} : sres (hres o) = pS o := by cases o <;> rfl
theorem sop_pick {c a b : Operand} : sop E B A σ (.pick c a b) = vS σ (pickS (aev A c) (aev A a) (aev A b)) := by
 simp only [sop,aop,pickS]
 cases aev A c <;> rfl
theorem pick_true {a b : Value} : pickS (.bool true) a b = some a := rfl
theorem pick_false {a b : Value} : pickS (.bool false) a b = some b := rfl
def newS (o : Option (List Value)) : Option SRes := match o with
 | some z => some (.new (.cells z true 0) fun b => .pointer (some ⟨b,0,none⟩))
 | none => none
theorem newS_some {z : List Value} : newS (some z) = some (.new (.cells z true 0) fun b => .pointer (some ⟨b,0,none⟩)) := rfl
theorem sop_alloc {t : Nat} : sop E B A σ (.alloc t) = newS (azero E t) := by simp only [sop]; cases azero E t <;> rfl
theorem sop_box {t : Nat} {x : Operand} : sop E B A σ (.box t x) = some (boxS t E (vcells (aev A x)) σ) := rfl
theorem box_deep {t : Nat} {cs : List Value} (h : (E.dp t && frzL E.ng E.nb cs) = true) : boxS t E cs σ = .val (dptr cs) σ := by unfold boxS; rw [if_pos h]
theorem sop_build {t : Nat} {ps : Array (Nat × Operand)} : sop E B A σ (.build t ps) = vS σ (abuild E t (pairs A ps)) := sres_vres
theorem sop_loadG {t g : Nat} : sop E B A σ (.load t (.global g)) = vS σ (aload E B t (.pointer (some ⟨g,0,none⟩))) := by simp only [sop,aev]; cases aload E B t (.pointer (some ⟨g,0,none⟩)) <;> rfl
theorem sop_load {t k : Nat} : sop E B A σ (.load t (.tmp k)) = vS σ (aload E σ t (aev A (.tmp k))) := sres_vres
theorem sop_store {t : Nat} {x y : Operand} : sop E B A σ (.store t x y) = uS (astore E σ t (aev A x) (aev A y)) := sres_ures
def nilS (v : Value) : Option Value := match v with
 | .pointer (some a) => some (.pointer (some a))
 | .func (.func f) fs cs => some (.func (.func f) fs cs)
 | .func (.yield 0) ⟨cs⟩ ⟨[]⟩ => some (dptr cs)
 | _ => none
theorem sop_nil {x : Operand} : sop E B A σ (.nilCheck x) = vS σ (nilS (aev A x)) := by
 simp only [sop,aop,nilS]
 split <;> simp_all [sres,vS]
theorem nil_ptrS {a : Addr} : nilS (.pointer (some a)) = some (.pointer (some a)) := rfl
theorem nil_fnS {f : Nat} {fs cs : Array Value} : nilS (.func (.func f) fs cs) = some (.func (.func f) fs cs) := rfl
theorem nil_dptr {cs : List Value} : nilS (dptr cs) = some (dptr cs) := rfl
theorem sop_bin {op : BinOp} {t u : Nat} {x y : Operand} : sop E B A σ (.binOp op t x y u) = vS σ (abin E σ op t (isConst x || isConst y) (aev A x) (aev A y)) := sres_vres
theorem sop_un {op : UnOp} {t : Nat} {x : Operand} : sop E B A σ (.unOp op t x) = vS σ (aun op (aev A x)) := sres_vres
theorem sop_conv {s d : Nat} {x : Operand} : sop E B A σ (.convert s d x) = some (convS E σ s d (aev A x)) := rfl
def tyIface : Option TI → Bool
 | some ⟨.iface _,_,_,_,_⟩ => true
 | _ => false
theorem sop_iface {t : Nat} {x : Operand} : sop E B A σ (.makeInterface t x) = vS σ (if (E.ty.get t).isSome && !tyIface (E.ty.get t) then some (.iface t (aev A x)) else none) := by
 simp only [sop,aop]
 cases h : E.ty.get t with
 | none => rfl
 | some i => obtain ⟨k,a,b,z,q⟩ := i; cases k <;> rfl
theorem sop_fn {f : Nat} {fs cs : Array Operand} : sop E B A σ (.makeFunc (.func f) fs cs) = some (.val (.func (.func f) (fs.map (aev A)) (cs.map (aev A))) σ) := rfl
theorem sop_map {t : Nat} : sop E B A σ (.makeMap t none) = some (.new (.map [] 0) fun b => .map (some b)) := rfl
theorem sop_buildSlice {t n : Nat} {ps : Array (Nat × Operand)} : sop E B A σ (.buildSlice t n ps) = some (bsS E σ t n (pairs A ps)) := rfl
theorem sop_makeSlice {t : Nat} {l c : Operand} : sop E B A σ (.makeSlice t l c) = some (.any fun b => amakeSlice E (σ.resize b) t (aev A l) (aev A c)) := rfl
theorem sop_slice {t : Nat} {x : Operand} {lo hi mx : Option Operand} : sop E B A σ (.slice t x lo hi mx) = vS σ (aslice E σ t (aev A x) (lo.map (aev A)) (hi.map (aev A)) (mx.map (aev A))) := sres_vres
theorem sop_fieldAddr {s f : Nat} {x : Operand} : sop E B A σ (.fieldAddr s x f) = vS σ (afieldAddr E s (aev A x) f) := sres_vres
theorem sop_field {s f : Nat} {x : Operand} : sop E B A σ (.field s x f) = vS σ (afield E s (aev A x) f) := sres_vres
theorem sop_indexAddr {t : Nat} {x i : Operand} : sop E B A σ (.indexAddr t x i) = vS σ (aindexAddr E t (aev A x) (aev A i)) := sres_vres
theorem sop_index {t : Nat} {x i : Operand} : sop E B A σ (.index t x i) = vS σ (aindex E t (aev A x) (aev A i)) := sres_vres
theorem sop_lookup {t : Nat} {m k : Operand} {ok : Bool} : sop E B A σ (.lookup t m k ok) = vS σ (alookup E σ t (aev A m) (aev A k) ok) := sres_vres
theorem sop_mapUpdate {t : Nat} {m k v : Operand} : sop E B A σ (.mapUpdate t m k v) = uS (amapUpdate E σ t (aev A m) (aev A k) (aev A v)) := sres_ures
def extractS (v : Value) (i : Nat) : Option Value := match v with
 | .tuple vs => vs[i]?
 | _ => none
theorem sop_extract {x : Operand} {i : Nat} : sop E B A σ (.extract x i) = vS σ (extractS (aev A x) i) := by
 simp only [sop,aop,extractS]
 cases aev A x <;> first | rfl | exact sres_vres
theorem extract_2_0 {a b : Value} : extractS (.tuple #[a,b]) 0 = some a := rfl
theorem extract_2_1 {a b : Value} : extractS (.tuple #[a,b]) 1 = some b := rfl
theorem extract_3_0 {a b c : Value} : extractS (.tuple #[a,b,c]) 0 = some a := rfl
theorem extract_3_1 {a b c : Value} : extractS (.tuple #[a,b,c]) 1 = some b := rfl
theorem extract_3_2 {a b c : Value} : extractS (.tuple #[a,b,c]) 2 = some c := rfl
theorem extract_4 {a b c d : Value} {i : Nat} : extractS (.tuple #[a,b,c,d]) i = ([a,b,c,d] : List Value)[i]? := by simp [extractS]
theorem sop_append {args : Array Operand} {ts : Array Nat} : sop E B A σ (.call ⟨.builtin .append,args,ts⟩) = some (.any fun b => aappend E (σ.resize b) ts.toList (args.toList.map (aev A))) := rfl
theorem sop_builtin {b : Builtin} (hb : b ≠ .append) {args : Array Operand} {ts : Array Nat} : sop E B A σ (.call ⟨.builtin b,args,ts⟩) = pS (abuiltin E σ b ts.toList (args.toList.map (aev A))) := by
 cases b <;> first | exact (hb rfl).elim | (simp only [sop,aop]; exact sres_hres)
def calleeS (v : Value) (args : List Value) : Option SRes := match v with
 | .func (.func g) fs cs => some (.call g (fs.toList ++ args ++ cs.toList))
 | _ => none
theorem sop_call {f : Operand} {args : Array Operand} {ts : Array Nat} : sop E B A σ (.call ⟨.value f,args,ts⟩) = calleeS (aev A f) (args.toList.map (aev A)) := by
 simp only [sop,aop,calleeS]
 split <;> simp_all [sres]
theorem callee_fn {g : Nat} {fs cs : List Value} {args : List Value} : calleeS (.func (.func g) ⟨fs⟩ ⟨cs⟩) args = some (.call g (fs ++ args ++ cs)) := rfl

def loadT (i : Option TI) (o : AObj) (k : Nat) : Option Value := match i,o with
 | some i,.cells cs _ _ => if i.isAgg then (if k + i.size ≤ cs.length then some (.agg ((cs.drop k).take i.size).toArray) else none) else cs[k]?
 | _,_ => none
theorem load_ptr {H : AHeap} {t b o : Nat} : aload E H t (.pointer (some ⟨b,o,none⟩)) = loadT (E.ty.get t) (H.get b) o := by
 simp only [aload,loadT]
 cases H.get b <;> cases E.ty.get t <;> rfl
theorem load_dptr {H : AHeap} {t : Nat} {cs : List Value} : aload E H t (dptr cs) = loadT (E.ty.get t) (.cells cs true 0) 0 := by
 simp only [aload,loadT]
 cases E.ty.get t with
 | none => rfl
 | some i => simp only [Nat.zero_add,List.drop_zero]
section
variable {s y : Nat} {z : Option (List ZV)} {q w : Bool} {c : List Value} {m k : Nat}
theorem lt_bool : loadT (some ⟨.bool,s,y,z,q⟩) (.cells c w m) k = c[k]? := rfl
theorem lt_int {n : IntKind} : loadT (some ⟨.int n,s,y,z,q⟩) (.cells c w m) k = c[k]? := rfl
theorem lt_string : loadT (some ⟨.string,s,y,z,q⟩) (.cells c w m) k = c[k]? := rfl
theorem lt_ptr {e : Nat} : loadT (some ⟨.ptr e,s,y,z,q⟩) (.cells c w m) k = c[k]? := rfl
theorem lt_slice {e : Nat} : loadT (some ⟨.slice e,s,y,z,q⟩) (.cells c w m) k = c[k]? := rfl
theorem lt_map {e f : Nat} : loadT (some ⟨.map f e,s,y,z,q⟩) (.cells c w m) k = c[k]? := rfl
theorem lt_iface {e : Bool} : loadT (some ⟨.iface e,s,y,z,q⟩) (.cells c w m) k = c[k]? := rfl
theorem lt_func : loadT (some ⟨.func,s,y,z,q⟩) (.cells c w m) k = c[k]? := rfl
theorem lt_struct {fs : List (Nat × Nat × Bool)} : loadT (some ⟨.struct fs,s,y,z,q⟩) (.cells c w m) k = if k + s ≤ c.length then some (.agg ((c.drop k).take s).toArray) else none := rfl
theorem lt_arr {n e : Nat} : loadT (some ⟨.arr n e,s,y,z,q⟩) (.cells c w m) k = if k + s ≤ c.length then some (.agg ((c.drop k).take s).toArray) else none := rfl
end
def storeT (i : Option TI) (H : AHeap) (b : Nat) (o : AObj) (k : Nat) (xs : List Value) : Option AHeap := match i,o with
 | some i,.cells cs true sz => if xs.length = i.size then (if xs.all oneCell && decide (k + xs.length ≤ cs.length) then some (H.set b (.cells (splice cs k xs) true sz)) else none) else none
 | _,_ => none
theorem store_ptr {H : AHeap} {t b o : Nat} {v : Value} : astore E H t (.pointer (some ⟨b,o,none⟩)) v = storeT (E.ty.get t) H b (H.get b) o (vcells v) := by
 simp only [astore,astoreAt,storeT]
 cases E.ty.get t with
 | none => rfl
 | some i =>
  simp only
  cases h : H.get b with
  | cells cs w sz => cases w <;> simp
  | dead => simp
  | map es c => simp
theorem storeT_some {i : TI} {H : AHeap} {b k sz : Nat} {cs xs : List Value} : storeT (some i) H b (.cells cs true sz) k xs = if xs.length = i.size then (if xs.all oneCell && decide (k + xs.length ≤ cs.length) then some (H.set b (.cells (splice cs k xs) true sz)) else none) else none := rfl
theorem vc_int {k : IntKind} {n : Int} : vcells (.int k n) = [.int k n] := rfl
theorem vc_bool {b : Bool} : vcells (.bool b) = [.bool b] := rfl
theorem vc_str {s : ByteArray} : vcells (.string s) = [.string s] := rfl
theorem vc_ptr {a : Option Addr} : vcells (.pointer a) = [.pointer a] := rfl
theorem vc_slice {a : Option Addr} {n c : Nat} : vcells (.slice a n c) = [.slice a n c] := rfl
theorem vc_map {a : Option Nat} : vcells (.map a) = [.map a] := rfl
theorem vc_iface {t : Nat} {v : Value} : vcells (.iface t v) = [.iface t v] := rfl
theorem vc_nil : vcells .nilIface = [.nilIface] := rfl
theorem vc_nilf : vcells .nilFunc = [.nilFunc] := rfl
theorem vc_func {f : Fn} {a b : Array Value} : vcells (.func f a b) = [.func f a b] := rfl
theorem vc_agg {l : List Value} : vcells (.agg ⟨l⟩) = l := rfl
theorem oc_int {k : IntKind} {n : Int} : oneCell (.int k n) = true := rfl
theorem oc_bool {b : Bool} : oneCell (.bool b) = true := rfl
theorem oc_str {s : ByteArray} : oneCell (.string s) = true := rfl
theorem oc_ptr {a : Option Addr} : oneCell (.pointer a) = true := rfl
theorem oc_slice {a : Option Addr} {n c : Nat} : oneCell (.slice a n c) = true := rfl
theorem oc_map {a : Option Nat} : oneCell (.map a) = true := rfl
theorem oc_iface {t : Nat} {v : Value} : oneCell (.iface t v) = true := rfl
theorem oc_nil : oneCell .nilIface = true := rfl
theorem oc_nilf : oneCell .nilFunc = true := rfl
theorem oc_func {f : Fn} {a b : Array Value} : oneCell (.func f a b) = true := rfl

theorem ifn_eql {t : Nat} {cs : Bool} {u : Nat} {v : Value} : abin E σ .eql t cs (.iface u v) .nilIface = if tyIface (E.ty.get t) then some (.bool false) else none := by
 simp only [abin,nonNum,eqAsk,Bool.and_self,if_true,aeq]
 cases E.ty.get t with
 | none => rfl
 | some i => obtain ⟨k,a,b,z,q⟩ := i; cases k <;> rfl
theorem ifn_neq {t : Nat} {cs : Bool} {u : Nat} {v : Value} : abin E σ .neq t cs (.iface u v) .nilIface = if tyIface (E.ty.get t) then some (.bool true) else none := by
 simp only [abin,nonNum,eqAsk,Bool.and_self,if_true,aeq]
 cases E.ty.get t with
 | none => rfl
 | some i => obtain ⟨k,a,b,z,q⟩ := i; cases k <;> rfl
theorem nfi_eql {t : Nat} : abin E σ .eql t true .nilIface .nilIface = if tyIface (E.ty.get t) then some (.bool true) else none := by
 simp only [abin,nonNum,eqAsk,Bool.and_self,if_true,aeq]
 cases E.ty.get t with
 | none => rfl
 | some i => obtain ⟨k,a,b,z,q⟩ := i; cases k <;> rfl
theorem nfi_neq {t : Nat} : abin E σ .neq t true .nilIface .nilIface = if tyIface (E.ty.get t) then some (.bool false) else none := by
 simp only [abin,nonNum,eqAsk,Bool.and_self,if_true,aeq]
 cases E.ty.get t with
 | none => rfl
 | some i => obtain ⟨k,a,b,z,q⟩ := i; cases k <;> rfl
def tyPtr : Option TI → Bool
 | some ⟨.ptr _,_,_,_,_⟩ => true
 | _ => false
theorem ptn_eql {t : Nat} {cs : Bool} {a : Addr} : abin E σ .eql t cs (.pointer (some a)) (.pointer none) = if tyPtr (E.ty.get t) then some (.bool false) else none := by
 simp only [abin,nonNum,eqAsk,Bool.and_self,if_true,aeq]
 cases E.ty.get t with
 | none => rfl
 | some i => obtain ⟨k,a,b,z,q⟩ := i; cases k <;> rfl
theorem ptn_neq {t : Nat} {cs : Bool} {a : Addr} : abin E σ .neq t cs (.pointer (some a)) (.pointer none) = if tyPtr (E.ty.get t) then some (.bool true) else none := by
 simp only [abin,nonNum,eqAsk,Bool.and_self,if_true,aeq]
 cases E.ty.get t with
 | none => rfl
 | some i => obtain ⟨k,a,b,z,q⟩ := i; cases k <;> rfl
theorem npt_eql {t : Nat} {cs : Bool} : abin E σ .eql t cs (.pointer none) (.pointer none) = if tyPtr (E.ty.get t) then some (.bool true) else none := by
 simp only [abin,nonNum,eqAsk,Bool.and_self,if_true,aeq]
 cases E.ty.get t with
 | none => rfl
 | some i => obtain ⟨k,a,b,z,q⟩ := i; cases k <;> rfl
theorem npt_neq {t : Nat} {cs : Bool} : abin E σ .neq t cs (.pointer none) (.pointer none) = if tyPtr (E.ty.get t) then some (.bool false) else none := by
 simp only [abin,nonNum,eqAsk,Bool.and_self,if_true,aeq]
 cases E.ty.get t with
 | none => rfl
 | some i => obtain ⟨k,a,b,z,q⟩ := i; cases k <;> rfl
theorem tyIface_some {e : Bool} {a b : Nat} {z : Option (List ZV)} {q : Bool} : tyIface (some ⟨.iface e,a,b,z,q⟩) = true := rfl
theorem tyPtr_some {e a b : Nat} {z : Option (List ZV)} {q : Bool} : tyPtr (some ⟨.ptr e,a,b,z,q⟩) = true := rfl
theorem tyIface_ptr {e a b : Nat} {z : Option (List ZV)} {q : Bool} : tyIface (some ⟨.ptr e,a,b,z,q⟩) = false := rfl
theorem tyIface_struct {e : List (Nat × Nat × Bool)} {a b : Nat} {z : Option (List ZV)} {q : Bool} : tyIface (some ⟨.struct e,a,b,z,q⟩) = false := rfl
end
def structT (p : Option (List (Nat × Nat))) (zs : List Value) (ps : List (Nat × Value)) : Option Value := match p with
 | some pl => (lfill (fun k => pl[k]?) zs ps).map fun cs => .agg ⟨cs⟩
 | none => none
def aggS (o : Option (List Value)) : Option Value := match o with
 | some cs => some (.agg ⟨cs⟩)
 | none => none
def fpS (o : Nat) (i : Option TI) (r : Option (List (Nat × Nat))) : Option (List (Nat × Nat)) := match i,r with
 | some i,some r => some ((o,i.size) :: r)
 | _,_ => none
def lfillAt (pl : Nat → Option (Nat × Nat)) (p : Option (Nat × Nat)) (cs : List Value) (v : Value) (r : List (Nat × Value)) : Option (List Value) := match p with
 | none => none
 | some (off,size) => if (vcells v).length = size && decide (off + size ≤ cs.length) then lfill pl (splice cs off (vcells v)) r else none
theorem lfillAt_some {pl : Nat → Option (Nat × Nat)} {off size : Nat} {cs : List Value} {v : Value} {r : List (Nat × Value)} : lfillAt pl (some (off,size)) cs v r = if (vcells v).length = size && decide (off + size ≤ cs.length) then lfill pl (splice cs off (vcells v)) r else none := rfl
def buildT (E : Env) (i : Option TI) (ps : List (Nat × Value)) : Option Value := match i with
 | some ⟨.struct fs,_,_,some zs,_⟩ => match fieldPlaces E fs with
  | some pl => (lfill (fun k => pl[k]?) (zs.map ZV.val) ps).map fun cs => .agg ⟨cs⟩
  | none => none
 | some ⟨.arr _ e,_,_,some zs,_⟩ => match E.ty.get e with
  | some j => (lfill (fun k => some (k * j.size,j.size)) (zs.map ZV.val) ps).map fun cs => .agg ⟨cs⟩
  | none => none
 | _ => none
theorem build_T {E : Env} {t : Nat} {ps : List (Nat × Value)} : abuild E t ps = buildT E (E.ty.get t) ps := by
 simp only [abuild,buildT,azero]
 cases E.ty.get t with
 | none => rfl
 | some i =>
  obtain ⟨k,a,b,z,q⟩ := i
  cases z with
  | none => cases k <;> rfl
  | some zs => cases k <;> first | rfl | (rename_i fs; cases fieldPlaces E fs <;> rfl) | (rename_i n e; simp only [Option.bind_some,Option.map_some]; cases E.ty.get e <;> rfl)
theorem buildT_struct {E : Env} {fs : List (Nat × Nat × Bool)} {a b : Nat} {zs : List ZV} {q : Bool} {ps : List (Nat × Value)} : buildT E (some ⟨.struct fs,a,b,some zs,q⟩) ps = structT (fieldPlaces E fs) (zs.map ZV.val) ps := by
 rfl
theorem structT_some {pl : List (Nat × Nat)} {zs : List Value} {ps : List (Nat × Value)} : structT (some pl) zs ps = aggS (lfill (fun k => pl[k]?) zs ps) := by
 simp only [structT,aggS]
 cases lfill (fun k => pl[k]?) zs ps <;> rfl
theorem aggS_some {cs : List Value} : aggS (some cs) = some (.agg ⟨cs⟩) := rfl
theorem fp_nil {E : Env} : fieldPlaces E [] = some [] := rfl
theorem fp_cons {E : Env} {o t : Nat} {q : Bool} {fs : List (Nat × Nat × Bool)} : fieldPlaces E ((o,t,q) :: fs) = fpS o (E.ty.get t) (fieldPlaces E fs) := by
 simp only [fieldPlaces,fpS]
 cases E.ty.get t <;> cases fieldPlaces E fs <;> rfl
theorem fpS_some {o : Nat} {i : TI} {r : List (Nat × Nat)} : fpS o (some i) (some r) = some ((o,i.size) :: r) := rfl
section
variable {E : Env} {σ : AHeap}
theorem off_dsl {m sz n : Nat} {cs : List Value} {a : AHeap} {f : Nat → Option (Value × AHeap)} : offHeap (some (dsl m sz n cs,a)) σ f = .val (dsl m sz n cs) σ := rfl
theorem off_int {k : IntKind} {n : Int} {a : AHeap} {f : Nat → Option (Value × AHeap)} : offHeap (some (.int k n,a)) σ f = .val (.int k n) σ := rfl
theorem off_str {s : ByteArray} {a : AHeap} {f : Nat → Option (Value × AHeap)} : offHeap (some (.string s,a)) σ f = .val (.string s) σ := rfl
theorem off_slice {p : Option Addr} {n c : Nat} {a : AHeap} {f : Nat → Option (Value × AHeap)} : offHeap (some (.slice p n c,a)) σ f = .any f := rfl
def ciT (E : Env) (σ : AHeap) (s d : Nat) (i j : Option TI) (k : IntKind) (n : Int) : SRes := match i,j with
 | some _,some ⟨.int q,_,_,_,_⟩ => .val (.int q (q.wrap n)) σ
 | _,_ => convS E σ s d (.int k n)
theorem conv_intS {s d : Nat} {k : IntKind} {n : Int} : convS E σ s d (.int k n) = ciT E σ s d (E.ty.get s) (E.ty.get d) k n := by
 unfold ciT
 split
 ·rename_i hs hd
  simp only [convS,aconvert,hs,hd,offHeap]
 ·rfl
theorem ciT_int {s d : Nat} {i : TI} {q k : IntKind} {a b : Nat} {z : Option (List ZV)} {w : Bool} {n : Int} : ciT E σ s d (some i) (some ⟨.int q,a,b,z,w⟩) k n = .val (.int q (q.wrap n)) σ := rfl
def bsZ (E : Env) (σ : AHeap) (t n : Nat) (ps : List (Nat × Value)) : SRes := bsS E σ t n ps
def bsC (E : Env) (σ : AHeap) (t n : Nat) (ps : List (Nat × Value)) (sz : Nat) (o : Option (List Value)) : SRes := match o with
 | some cs => if E.dp t && frzL E.ng E.nb cs then .val (dsl 1 sz n cs) σ else .any fun b => some (.slice (some ⟨b,0,some 1⟩) n n,(σ.resize b).alloc (.cells cs true sz))
 | none => bsZ E σ t n ps
def bsE (E : Env) (σ : AHeap) (t n : Nat) (ps : List (Nat × Value)) (j : Option TI) : SRes := match j with
 | some ⟨k,sz,by',some zs,q⟩ => if sz = 0 || zs.length != sz || decide (n * sz > 16777216) then bsZ E σ t n ps else bsC E σ t n ps sz (lfill (fun k => some (k * sz,sz)) (reps (zs.map ZV.val) n) ps)
 | _ => bsZ E σ t n ps
def bsT (E : Env) (σ : AHeap) (t n : Nat) (ps : List (Nat × Value)) (i : Option TI) : SRes := match i with
 | some ⟨.slice e,_,_,_,_⟩ => bsE E σ t n ps (E.ty.get e)
 | _ => bsZ E σ t n ps
theorem bs_T {t n : Nat} {ps : List (Nat × Value)} : bsS E σ t n ps = bsT E σ t n ps (E.ty.get t) := by
 unfold bsT
 split
 ·rename_i e _ _ _ _ ht
  unfold bsE
  split
  ·rename_i k sz by' zs q he
   split
   ·rfl
   ·rename_i hc
    have ha : azero E e = some (zs.map ZV.val) := by simp [azero,he]
    have hc' : ¬ ((decide (sz = 0) || (zs.map ZV.val).length != sz || decide (n * sz > 16777216)) = true) := by rw [List.length_map]; exact hc
    unfold bsC
    split
    ·rename_i cs hl
     simp only [bsS,abuildSlice,ht,he,ha]
     rw [if_neg hc',hl]
     simp only [Option.map_some]
     split
     ·rfl
     ·rename_i hd
      simp only [offHeap]
      congr 1
    ·rfl
  ·rfl
 ·rfl
theorem bsT_slice {t n : Nat} {ps : List (Nat × Value)} {e a b : Nat} {z : Option (List ZV)} {q : Bool} : bsT E σ t n ps (some ⟨.slice e,a,b,z,q⟩) = bsE E σ t n ps (E.ty.get e) := rfl
theorem bsE_some {t n : Nat} {ps : List (Nat × Value)} {k : TK} {sz a : Nat} {zs : List ZV} {q : Bool} : bsE E σ t n ps (some ⟨k,sz,a,some zs,q⟩) = if sz = 0 || zs.length != sz || decide (n * sz > 16777216) then bsZ E σ t n ps else bsC E σ t n ps sz (lfill (fun k => some (k * sz,sz)) (reps (zs.map ZV.val) n) ps) := rfl
theorem bsC_some {t n : Nat} {ps : List (Nat × Value)} {sz : Nat} {cs : List Value} : bsC E σ t n ps sz (some cs) = if E.dp t && frzL E.ng E.nb cs then .val (dsl 1 sz n cs) σ else .any fun b => some (.slice (some ⟨b,0,some 1⟩) n n,(σ.resize b).alloc (.cells cs true sz)) := rfl
theorem reps_succ {z : List Value} {n : Nat} : reps z (n + 1) = z ++ reps z n := rfl
theorem reps_zero {z : List Value} : reps z 0 = [] := rfl
end
section
variable {E : Env} {B σ : AHeap} {A : List Value} {all : Array Oper} {l : List Oper} {P : List (List Value × AHeap) → Prop}
def drawS (B : AHeap) (ops : Array Oper) (Q : AExit → List Value → AHeap → Prop) (tr : List (List Value × AHeap)) : Prop := (floatPairs ops).all (floatS B ops tr) = true ∧ ∃ A' σ',tr.getLast? = some (A',σ') ∧ Q .normal A' σ'
theorem S_draw {id : Nat} {ops : Array Oper} {Q : AExit → List Value → AHeap → Prop} : CodeS E B (.region id ops true) A σ Q ↔ TrS E B ops ops.toList A σ (drawS B ops Q) := by simp only [CodeS]; exact Iff.rfl
def consS (s : List Value × AHeap) (P : List (List Value × AHeap) → Prop) (tr : List (List Value × AHeap)) : Prop := P (s :: tr)
theorem consS_iff {s : List Value × AHeap} {tr : List (List Value × AHeap)} : consS s P tr ↔ P (s :: tr) := Iff.rfl
theorem TS_nil : TrS E B all [] A σ P ↔ P [(A,σ)] := Iff.rfl
def trSK (E : Env) (B : AHeap) (all : Array Oper) (dst : Option Tmp) (l : List Oper) (A : List Value) (σ : AHeap) (P : List (List Value × AHeap) → Prop) (v : Value) (σ' : AHeap) : Prop := TrS E B all l (aput A dst v) σ' (consS (A,σ) P)
theorem trSK_iff {dst : Option Tmp} {v : Value} {σ' : AHeap} : trSK E B all dst l A σ P v σ' ↔ TrS E B all l (aput A dst v) σ' (consS (A,σ) P) := Iff.rfl
theorem TS_op {dst : Option Tmp} {op : Op} {ty : TypeId} {pos : String} {after : Array Edge} : TrS E B all (⟨dst,op,ty,pos,after,none⟩ :: l) A σ P ↔ afterOpS E B (sop E B A σ op) σ (trSK E B all dst l A σ P) := by
 simp only [TrS,Region.wanted,if_true]; exact Iff.rfl
def guardTS (E : Env) (B : AHeap) (y : Option Bool) (b : Bool) (op : Op) (all : Array Oper) (dst : Option Tmp) (l : List Oper) (A : List Value) (σ : AHeap) (P : List (List Value × AHeap) → Prop) : Prop :=
 if y == some b then afterOpS E B (sop E B A σ op) σ (trSK E B all dst l A σ P) else TrS E B all l (aput A dst undef) σ (consS (A,σ) P)
theorem TS_guard {dst : Option Tmp} {op : Op} {ty : TypeId} {pos : String} {after : Array Edge} {g : Nat} {b : Bool} : TrS E B all (⟨dst,op,ty,pos,after,some (g,b)⟩ :: l) A σ P ↔ guardTS E B (ayield all A g) b op all dst l A σ P := by
 simp only [TrS]; exact Iff.rfl
theorem GTS_true {op : Op} {dst : Option Tmp} {b : Bool} : guardTS E B (some b) b op all dst l A σ P ↔ afterOpS E B (sop E B A σ op) σ (trSK E B all dst l A σ P) := by simp [guardTS]
theorem GTS_tf {op : Op} {dst : Option Tmp} : guardTS E B (some true) false op all dst l A σ P ↔ TrS E B all l (aput A dst undef) σ (consS (A,σ) P) := by simp [guardTS]
theorem GTS_ft {op : Op} {dst : Option Tmp} : guardTS E B (some false) true op all dst l A σ P ↔ TrS E B all l (aput A dst undef) σ (consS (A,σ) P) := by simp [guardTS]
theorem GTS_undef {b : Bool} {op : Op} {dst : Option Tmp} : guardTS E B (truth undef) b op all dst l A σ P ↔ TrS E B all l (aput A dst undef) σ (consS (A,σ) P) := by simp [guardTS,truth,undef]
theorem GS_undef {b : Bool} {op : Op} {dst : Option Tmp} {K : List Value → AHeap → Prop} : guardS E B (truth undef) b op all dst l A σ K ↔ OpsS E B all l (aput A dst undef) σ K := by simp [guardS,truth,undef]
theorem drawS_of {ops : Array Oper} {Q : AExit → List Value → AHeap → Prop} {tr : List (List Value × AHeap)} {fl : List (Nat × Nat)} (hf : floatPairs ops = fl) (h : fl.all (floatS B ops tr) = true ∧ ∃ A' σ',tr.getLast? = some (A',σ') ∧ Q .normal A' σ') : drawS B ops Q tr := by
 unfold drawS; rw [hf]; exact h
theorem dead_cells {cs : List Value} {w : Bool} {sz : Nat} : deadO (.cells cs w sz) = false := rfl
theorem dead_map {es : List MapEntry} {c : Nat} : deadO (.map es c) = false := rfl
end
section
variable {E : Env} {σ : AHeap}
def faG (j : Option TI) (off : Nat) (v : Nat → Value) : Option Value := match j with
 | some j => if j.size = 0 then none else some (v off)
 | none => none
def faF (E : Env) (p : Option (Nat × Nat × Bool)) (v : Nat → Value) : Option Value := match p with
 | some (off,t,_) => faG (E.ty.get t) off v
 | none => none
def faS (E : Env) (i : Option TI) (f : Nat) (v : Nat → Value) : Option Value := match i with
 | some ⟨.struct fs,_,_,_,_⟩ => faF E fs[f]? v
 | _ => none
theorem fa_ptr {s b o f : Nat} : afieldAddr E s (.pointer (some ⟨b,o,none⟩)) f = faS E (E.ty.get s) f fun off => .pointer (some ⟨b,o + off,none⟩) := by
 simp only [afieldAddr,faS]
 cases E.ty.get s with
 | none => rfl
 | some i =>
  obtain ⟨k,a,b,z,q⟩ := i
  cases k <;> rfl
theorem fa_dptr {s f : Nat} {cs : List Value} : afieldAddr E s (dptr cs) f = faS E (E.ty.get s) f fun off => dptr (cs.drop off) := by
 simp only [afieldAddr,faS]
 cases E.ty.get s with
 | none => rfl
 | some i =>
  obtain ⟨k,a,b,z,q⟩ := i
  cases k <;> rfl
theorem faS_struct {fs : List (Nat × Nat × Bool)} {a b f : Nat} {z : Option (List ZV)} {q : Bool} {v : Nat → Value} : faS E (some ⟨.struct fs,a,b,z,q⟩) f v = faF E fs[f]? v := rfl
theorem faF_some {off t : Nat} {q : Bool} {v : Nat → Value} : faF E (some (off,t,q)) v = faG (E.ty.get t) off v := rfl
theorem faG_some {j : TI} {off : Nat} {v : Nat → Value} : faG (some j) off v = if j.size = 0 then none else some (v off) := rfl
def paT (i : Option TI) (cs : List Value) (off : Nat) : Option Value := match i with
 | some i => if i.isAgg then (if off + i.size ≤ cs.length then some (.agg ((cs.drop off).take i.size).toArray) else none) else cs[off]?
 | none => none
theorem apart_T {t off : Nat} {cs : List Value} : apart E t cs off = paT (E.ty.get t) cs off := by
 simp only [apart,paT]
 cases E.ty.get t <;> rfl
def fiF (E : Env) (p : Option (Nat × Nat × Bool)) (cs : List Value) : Option Value := match p with
 | some (off,t,_) => paT (E.ty.get t) cs off
 | none => none
def fiS (E : Env) (i : Option TI) (f : Nat) (cs : List Value) : Option Value := match i with
 | some ⟨.struct fs,_,_,_,_⟩ => fiF E fs[f]? cs
 | _ => none
theorem field_agg {s f : Nat} {cs : List Value} : afield E s (.agg ⟨cs⟩) f = fiS E (E.ty.get s) f cs := by
 simp only [afield,fiS]
 cases E.ty.get s with
 | none => rfl
 | some i =>
  obtain ⟨k,a,b,z,q⟩ := i
  cases k <;> first | rfl | skip
  rename_i fs
  simp only [fiF]
  cases fs[f]? with
  | none => rfl
  | some p => obtain ⟨off,t,w⟩ := p; exact apart_T
theorem fiS_struct {fs : List (Nat × Nat × Bool)} {a b f : Nat} {z : Option (List ZV)} {q : Bool} {cs : List Value} : fiS E (some ⟨.struct fs,a,b,z,q⟩) f cs = fiF E fs[f]? cs := rfl
theorem fiF_some {off t : Nat} {q : Bool} {cs : List Value} : fiF E (some (off,t,q)) cs = paT (E.ty.get t) cs off := rfl
section
variable {s y : Nat} {z : Option (List ZV)} {q : Bool} {c : List Value} {k : Nat}
theorem pt_bool : paT (some ⟨.bool,s,y,z,q⟩) c k = c[k]? := rfl
theorem pt_int {n : IntKind} : paT (some ⟨.int n,s,y,z,q⟩) c k = c[k]? := rfl
theorem pt_string : paT (some ⟨.string,s,y,z,q⟩) c k = c[k]? := rfl
theorem pt_ptr {e : Nat} : paT (some ⟨.ptr e,s,y,z,q⟩) c k = c[k]? := rfl
theorem pt_slice {e : Nat} : paT (some ⟨.slice e,s,y,z,q⟩) c k = c[k]? := rfl
theorem pt_map {e f : Nat} : paT (some ⟨.map f e,s,y,z,q⟩) c k = c[k]? := rfl
theorem pt_iface {e : Bool} : paT (some ⟨.iface e,s,y,z,q⟩) c k = c[k]? := rfl
theorem pt_func : paT (some ⟨.func,s,y,z,q⟩) c k = c[k]? := rfl
theorem pt_struct {fs : List (Nat × Nat × Bool)} : paT (some ⟨.struct fs,s,y,z,q⟩) c k = if k + s ≤ c.length then some (.agg ((c.drop k).take s).toArray) else none := rfl
theorem pt_arr {n e : Nat} : paT (some ⟨.arr n e,s,y,z,q⟩) c k = if k + s ≤ c.length then some (.agg ((c.drop k).take s).toArray) else none := rfl
end
def lenT (i : Option TI) (x : Value) (σ : AHeap) : Option (Value × AHeap) := match i,x with
 | some ⟨.string,_,_,_,_⟩,.string s => some (goInt s.size,σ)
 | some ⟨.slice _,_,_,_,_⟩,.slice _ n _ => some (goInt n,σ)
 | some ⟨.slice _,_,_,_,_⟩,.func (.yield 1) ⟨_⟩ ⟨[.slice none _ _,.slice none n 0]⟩ => some (goInt n,σ)
 | _,_ => none
theorem len_strT {t : Nat} {ts : List Nat} {s : ByteArray} : abuiltin E σ .len (t :: ts) [.string s] = lenT (E.ty.get t) (.string s) σ := by
 simp only [abuiltin,lenT]
 cases E.ty.get t with
 | none => rfl
 | some i => obtain ⟨k,a,b,z,q⟩ := i; cases k <;> rfl
theorem len_sliceT {t : Nat} {ts : List Nat} {p : Option Addr} {n c : Nat} : abuiltin E σ .len (t :: ts) [.slice p n c] = lenT (E.ty.get t) (.slice p n c) σ := by
 simp only [abuiltin,lenT]
 cases E.ty.get t with
 | none => rfl
 | some i => obtain ⟨k,a,b,z,q⟩ := i; cases k <;> rfl
theorem len_dslT {t : Nat} {ts : List Nat} {m sz n : Nat} {xs : List Value} : abuiltin E σ .len (t :: ts) [dsl m sz n xs] = lenT (E.ty.get t) (dsl m sz n xs) σ := by
 simp only [abuiltin,lenT]
 cases E.ty.get t with
 | none => rfl
 | some i => obtain ⟨k,a,b,z,q⟩ := i; cases k <;> rfl
theorem lenT_str {a b : Nat} {z : Option (List ZV)} {q : Bool} {s : ByteArray} : lenT (some ⟨.string,a,b,z,q⟩) (.string s) σ = some (goInt s.size,σ) := rfl
theorem lenT_slice {e a b : Nat} {z : Option (List ZV)} {q : Bool} {p : Option Addr} {n c : Nat} : lenT (some ⟨.slice e,a,b,z,q⟩) (.slice p n c) σ = some (goInt n,σ) := rfl
theorem lenT_dsl {e a b : Nat} {z : Option (List ZV)} {q : Bool} {m sz n : Nat} {xs : List Value} : lenT (some ⟨.slice e,a,b,z,q⟩) (dsl m sz n xs) σ = some (goInt n,σ) := rfl
def iaS (E : Env) (i : Option TI) (v : Nat → Value) : Option Value := match i with
 | some ⟨.slice e,_,_,_,_⟩ => iaE (E.ty.get e) v
 | _ => none
where iaE (j : Option TI) (v : Nat → Value) : Option Value := match j with
 | some j => some (v j.size)
 | none => none
def iaD (E : Env) (i : Option TI) (sz : Nat) (xs : List Value) : Option Value := match i with
 | some ⟨.slice e,_,_,_,_⟩ => go (E.ty.get e) sz xs
 | _ => none
where go (j : Option TI) (sz : Nat) (xs : List Value) : Option Value := match j with
 | some j => if j.size = sz then some (dptr xs) else none
 | none => none
theorem ia_dsl {t m sz len i : Nat} {xs : List Value} {k : IntKind} (h : i < len) : aindexAddr E t (dsl m sz len xs) (.int k (i : Int)) = iaD E (E.ty.get t) sz (xs.drop (i * sz)) := by
 simp only [aindexAddr,iaD]
 cases E.ty.get t with
 | none => rfl
 | some a =>
  obtain ⟨k,a,b,z,q⟩ := a
  cases k <;> first | rfl | skip
  rename_i e
  simp only [iaD.go]
  cases E.ty.get e with
  | none => rfl
  | some j =>
   have h0 : (0 : Int) ≤ (i : Int) := Int.natCast_nonneg _
   have h1 : (i : Int) < (len : Int) := by omega
   simp [h0,h1]
theorem iaD_slice {e a b sz : Nat} {z : Option (List ZV)} {q : Bool} {xs : List Value} : iaD E (some ⟨.slice e,a,b,z,q⟩) sz xs = iaD.go (E.ty.get e) sz xs := rfl
theorem iaD_go {j : TI} {sz : Nat} {xs : List Value} : iaD.go (some j) sz xs = if j.size = sz then some (dptr xs) else none := rfl
theorem ia_sl {t b o len c i : Nat} {ex : Option Nat} {k : IntKind} (h : i < len) : aindexAddr E t (.slice (some ⟨b,o,ex⟩) len c) (.int k (i : Int)) = iaS E (E.ty.get t) fun s => .pointer (some ⟨b,o + i * s,none⟩) := by
 simp only [aindexAddr,iaS]
 cases E.ty.get t with
 | none => rfl
 | some a =>
  obtain ⟨k,a,b,z,q⟩ := a
  cases k <;> first | rfl | skip
  rename_i e
  simp only [iaS.iaE]
  cases E.ty.get e with
  | none => rfl
  | some j =>
   have h0 : (0 : Int) ≤ (i : Int) := Int.natCast_nonneg _
   have h1 : (i : Int) < (len : Int) := by omega
   simp [h0,h1]
theorem iaS_slice {e a b : Nat} {z : Option (List ZV)} {q : Bool} {v : Nat → Value} : iaS E (some ⟨.slice e,a,b,z,q⟩) v = iaS.iaE (E.ty.get e) v := rfl
theorem iaS_some {j : TI} {v : Nat → Value} : iaS.iaE (some j) v = some (v j.size) := rfl
theorem drop_flat {α : Type} {enc : α → List Value} {sz : Nat} (hsz : ∀ a,(enc a).length = sz) : ∀ {l : List α} {i : Nat} (h : i < l.length),(l.flatMap enc).drop (i * sz) = enc l[i] ++ (l.drop (i + 1)).flatMap enc
 | a :: l,0,h => by simp
 | a :: l,i + 1,h => by
  have := drop_flat hsz (l := l) (i := i) (by simpa using h)
  rw [List.flatMap_cons,Nat.succ_mul,Nat.add_comm (i * sz) sz,← List.drop_drop,List.drop_append_of_le_length (by rw [hsz]; omega),← hsz a,List.drop_length,List.nil_append,hsz a,this]
  simp
theorem notMem_wr {c : Code} {t : Nat} (h : (wr c).all (fun u => !Nat.beq u t) = true) : t ∉ wr c := by
 intro hm
 rw [List.all_eq_true] at h
 have := h t hm
 simp at this
end
section
variable {E : Env} {σ : AHeap}
theorem frzL_nil {a b : Nat} : frzL a b [] = true := by simp [frzL]
theorem frzL_cons {a b : Nat} {v : Value} {l : List Value} : frzL a b (v :: l) = (frz a b v && frzL a b l) := by simp [frzL]
theorem frz_int {a b : Nat} {k : IntKind} {n : Int} : frz a b (.int k n) = true := by simp [frz]
theorem frz_bool {a b : Nat} {k : Bool} : frz a b (.bool k) = true := by simp [frz]
theorem frz_str {a b : Nat} {s : ByteArray} : frz a b (.string s) = true := by simp [frz]
theorem frz_nilp {a b : Nat} : frz a b (.pointer none) = true := by simp [frz]
theorem frz_nilm {a b : Nat} : frz a b (.map none) = true := by simp [frz]
theorem frz_nils {a b : Nat} : frz a b (.slice none 0 0) = true := by simp [frz]
theorem frz_nili {a b : Nat} : frz a b .nilIface = true := by simp [frz]
theorem frz_iface {a b t : Nat} {v : Value} : frz a b (.iface t v) = frz a b v := by simp [frz]
theorem frz_dptr {a b : Nat} {cs : List Value} : frz a b (dptr cs) = true := by simp [frz]
theorem frz_dsl {a b m sz n : Nat} {cs : List Value} : frz a b (dsl m sz n cs) = decide (m ≤ 1) := by simp [frz]
theorem frz_agg {a b : Nat} {cs : List Value} : frz a b (.agg ⟨cs⟩) = frzL a b cs := by simp [frz]
theorem frz_ptr {a b c o : Nat} : frz a b (.pointer (some ⟨c,o,none⟩)) = (decide (c < a) || (decide (c < b) && decide (a + 2 ≤ b))) := by simp [frz]
theorem lfill_nil {pl : Nat → Option (Nat × Nat)} {cs : List Value} : lfill pl cs [] = some cs := rfl
theorem lfill_cons {pl : Nat → Option (Nat × Nat)} {cs : List Value} {i : Nat} {v : Value} {r : List (Nat × Value)} : lfill pl cs ((i,v) :: r) = lfillAt pl (pl i) cs v r := by
 simp only [lfill,lfillAt]
 cases pl i <;> rfl
end
end AbsYtkhcbbpfchgemaaDoor

/-
 Calls that are worked out in another environment of the same program.
-/
namespace AbsYtkhcbbpfchgemaaDoor
set_option linter.unusedVariables false
set_option linter.unusedSimpArgs false
set_option linter.unusedSectionVars false
open Go
noncomputable def subCall (E : Env) (f : Nat) : Spec := fun args H =>
 open Classical in if h : ∃ r k,callF E (exec E k) f args H = some r then some (Classical.choose h) else none
theorem subCall_some {E : Env} {f : Nat} {args : List Value} {H : AHeap} {r : Value × AHeap} (h : subCall E f args H = some r) : ∃ k,callF E (exec E k) f args H = some r := by
 unfold subCall at h
 split at h
 ·rename_i hx
  injection h with h
  subst h
  exact Classical.choose_spec hx
 ·cases h
theorem subCall_of {E : Env} {f k : Nat} {args : List Value} {H : AHeap} {r : Value × AHeap} (h : callF E (exec E k) f args H = some r) : subCall E f args H = some r := by
 have hx : ∃ r k,callF E (exec E k) f args H = some r := ⟨r,k,h⟩
 unfold subCall
 rw [dif_pos hx]
 obtain ⟨k',h'⟩ := Classical.choose_spec hx
 have a1 := callF_mono (exec_le (E := E) (Nat.le_max_left k k')) f args H r h
 have a2 := callF_mono (exec_le (E := E) (Nat.le_max_right k k')) f args H _ h'
 rw [a1] at a2
 exact a2.symm
theorem sub_sim {E E' : Env} (hE : EnvOk E) (hP : E'.P = E.P) (hn : E'.ng = E.ng) (hb : E'.nb = E.nb) {f k : Nat} {args : List Value} {H : AHeap} {r : Value} {H' : AHeap} (hr : callF E (exec E k) f args H = some (r,H')) : CallSim E' f args H r H' := by
 intro ι w args' hR hD hargs
 have post : ∀ {e : Ending} {w' : World},CallPost E ι H w r H' e w' → CallPost E' ι H w r H' e w' := by
  rintro e w' ⟨r',ι',h1,h2,h3,h4⟩
  exact ⟨r',ι',h1,h2,h3.env hn hb,h4⟩
 rw [hP]
 rcases (call_ok hE k).sim f args H r H' hr ι w args' (hR.env hn.symm hb.symm) hD hargs with ⟨h1,h2⟩ | ⟨r',w',h1,h2⟩
 ·exact .inl ⟨h1,h2.mono fun e w' h => post h⟩
 ·exact .inr ⟨r',w',h1,post h2⟩
noncomputable def Env.sub (E E2 : Env) (fs : List Nat) : Env := { E with sp := fun f => if fs.contains f then some (subCall E2 f) else E.sp f }
theorem EnvOk.sub {E E2 : Env} (hE : EnvOk E) (h2 : EnvOk E2) (hP : E.P = E2.P) (hn : E.ng = E2.ng) (hb : E.nb = E2.nb) (fs : List Nat) : EnvOk (E.sub E2 fs) where
 ty := ⟨hE.ty.ty⟩
 fn f F h := by
  obtain ⟨h1,h2,h3⟩ := hE.fn f F h
  exact ⟨h1,h2,h3⟩
 mixed := hE.mixed
 sp f g args H r H' hg h := by
  simp only [Env.sub] at hg
  split at hg
  ·injection hg with hg
   subst hg
   obtain ⟨k,hk⟩ := subCall_some h
   exact ⟨(call_ok h2 k).grow _ _ _ _ _ hk,sub_sim (E' := E.sub E2 fs) h2 hP hn hb hk⟩
  ·obtain ⟨h1,h2⟩ := hE.sp f g args H r H' hg h
   refine ⟨h1,fun ι w args' hR hD hargs => ?_⟩
   rcases h2 ι w args' (hR.env rfl rfl) hD hargs with ⟨h3,h4⟩ | ⟨r',w',h3,v',ι',h4,h5,h6,h7⟩
   ·exact .inl ⟨h3,h4.mono fun e w' ⟨v',ι',a1,a2,a3,a4⟩ => ⟨v',ι',a1,a2,a3.env rfl rfl,a4⟩⟩
   ·exact .inr ⟨r',w',h3,v',ι',h4,h5,h6.env rfl rfl,h7⟩
theorem CallW.sub {E E2 : Env} {fs : List Nat} {f : Nat} {args : List Value} {H : AHeap} {Q : Value → AHeap → Prop} (h : CallW E2 f args H Q) (hf : fs.contains f = true) : CallW (E.sub E2 fs) f args H Q := by
 obtain ⟨k,r,H',h1,h2⟩ := h
 exact w_special (g := subCall E2 f) (by simp only [Env.sub,hf,if_true]) (subCall_of h1) h2
theorem CallS.sub {E E2 : Env} {B : AHeap} {fs : List Nat} {f : Nat} {args : List Value} {σ : AHeap} {Q : Value → AHeap → Prop} (h : CallS E2 B f args σ Q) (hf : fs.contains f = true) : CallS (E.sub E2 fs) B f args σ Q :=
 fun H hH => (h H hH).sub hf
end AbsYtkhcbbpfchgemaaDoor

/-
 The walk's rules over a part of the heap,in two bundles.
-/
namespace AbsYtkhcbbpfchgemaaDoor
open Go
set_option linter.defProp false
def sbD := And.intro @S_seq <| And.intro @S_region <| And.intro @S_block <| And.intro @S_cond <| And.intro @S_skip <| And.intro @S_ret <| And.intro @S_exit <| And.intro @OS_op <| And.intro @OS_guard <| And.intro @OS_nil <| And.intro @AS_val <| And.intro @AS_call <| And.intro @thenS_normal <| And.intro @thenS_exit <| And.intro @thenS_ret <| And.intro @blockQ_ret <| And.intro @blockQ_normal <| And.intro @blockQ_exit <| And.intro @outS_normal <| And.intro @outS_ret <| And.intro @CS_true <| And.intro @CS_false <| And.intro @KS_op <| And.intro @GS_true <| And.intro @GS_tf <| And.intro @GS_ft <| And.intro @sop_move <| And.intro @sop_assign <| And.intro @sop_pick <| And.intro @sop_alloc <| And.intro @sop_box <| And.intro @sop_build <| And.intro @sop_loadG <| And.intro @sop_load <| And.intro @sop_store <| And.intro @sop_nil <| And.intro @sop_bin <| And.intro @sop_un <| And.intro @sop_conv <| And.intro @sop_iface <| And.intro @sop_fn <| And.intro @sop_map <| And.intro @sop_buildSlice <| And.intro @sop_makeSlice <| And.intro @sop_slice <| And.intro @sop_fieldAddr <| And.intro @sop_field <| And.intro @sop_indexAddr <| And.intro @sop_index <| And.intro @sop_lookup <| And.intro @sop_mapUpdate <| And.intro @sop_extract <| And.intro @sop_append <| And.intro @sop_builtin <| And.intro @sop_call <| And.intro @S_draw <| And.intro @TS_op <| And.intro @TS_guard <| And.intro @TS_nil <| And.intro @trSK_iff <| And.intro @consS_iff <| And.intro @GTS_true <| And.intro @GTS_tf <| @GTS_ft
def sbU := And.intro @array_toList <| And.intro @yield_list <| And.intro @yield_here <| And.intro @yield_next <| And.intro @truth_bool <| And.intro @thenQ_normal <| And.intro @thenQ_exit <| And.intro @thenQ_ret <| And.intro @vS_some <| And.intro @uS_some <| And.intro @pS_some <| And.intro @pick_true <| And.intro @pick_false <| And.intro @newS_some <| And.intro @nil_ptrS <| And.intro @nil_fnS <| And.intro @nil_dptr <| And.intro @extract_2_0 <| And.intro @extract_2_1 <| And.intro @extract_3_0 <| And.intro @extract_3_1 <| And.intro @extract_3_2 <| And.intro @extract_4 <| And.intro @callee_fn <| And.intro @load_ptr <| And.intro @load_dptr <| And.intro @lt_bool <| And.intro @lt_int <| And.intro @lt_string <| And.intro @lt_ptr <| And.intro @lt_slice <| And.intro @lt_map <| And.intro @lt_iface <| And.intro @lt_func <| And.intro @lt_struct <| And.intro @lt_arr <| And.intro @store_ptr <| And.intro @storeT_some <| And.intro @AHeap.get_set_same <| And.intro @vc_int <| And.intro @vc_bool <| And.intro @vc_str <| And.intro @vc_ptr <| And.intro @vc_slice <| And.intro @vc_map <| And.intro @vc_iface <| And.intro @vc_nil <| And.intro @vc_nilf <| And.intro @vc_func <| And.intro @vc_agg <| And.intro @oc_int <| And.intro @oc_bool <| And.intro @oc_str <| And.intro @oc_ptr <| And.intro @oc_slice <| And.intro @oc_map <| And.intro @oc_iface <| And.intro @oc_nil <| And.intro @oc_nilf <| And.intro @oc_func <| And.intro @ifn_eql <| And.intro @ifn_neq <| And.intro @nfi_eql <| And.intro @nfi_neq <| And.intro @ptn_eql <| And.intro @ptn_neq <| And.intro @npt_eql <| And.intro @npt_neq <| And.intro @tyIface_some <| And.intro @tyPtr_some <| And.intro @tyIface_ptr <| And.intro @tyIface_struct <| And.intro @abin_int <| And.intro @aint_eql <| And.intro @aint_neq <| And.intro @aint_lss <| And.intro @aint_leq <| And.intro @aint_gtr <| And.intro @aint_geq <| And.intro @aint_add <| And.intro @aint_sub <| And.intro @aint_mul <| And.intro @str_eql <| And.intro @str_neq' <| And.intro @min_int <| And.intro @max_int <| And.intro @aput_some <| And.intro @aput_none <| And.intro @res_cell1 <| And.intro @upd_at <| And.intro @aev_const <| And.intro @aev_tmp <| And.intro @aev_func <| And.intro @aev_global <| And.intro @ofL_zero <| And.intro @ofL_succ <| And.intro @ofL_nil <| And.intro @res_nil <| And.intro @res_tmp <| And.intro @oneOf_one <| And.intro @oneOf_two <| And.intro @oneOf_three <| And.intro @Option.map_some.{0,0} <| And.intro @Option.map_none.{0,0} <| And.intro @ne_eq.{1} <| And.intro @not_false_eq_true <| And.intro @Option.some.injEq.{0} <| And.intro @exists_eq_left'.{1} <| And.intro @List.map_cons.{0,0} <| And.intro @List.map_nil.{0,0} <| And.intro @not_true <| And.intro @true_and <| And.intro @and_true <| And.intro @Array.toList_empty.{0} <| And.intro @List.nil_append.{0} <| And.intro @List.append_nil.{0} <| And.intro @List.cons_append.{0} <| And.intro @Option.isSome_some.{0} <| And.intro @Bool.not_false <| And.intro @Bool.and_self <| And.intro @Bool.not_true <| And.intro @Bool.true_and <| And.intro @Bool.and_true <| And.intro @Bool.true_or <| And.intro @Bool.or_true <| And.intro @Bool.or_false <| And.intro @Bool.false_or <| And.intro @Nat.zero_add <| And.intro @Nat.add_zero <| And.intro @decide_true <| And.intro @len_strT <| And.intro @len_sliceT <| And.intro @len_dslT <| And.intro @lenT_str <| And.intro @lenT_slice <| And.intro @lenT_dsl <| And.intro @ia_dsl <| And.intro @iaD_slice <| And.intro @iaD_go <| And.intro @ia_sl <| And.intro @iaS_slice <| And.intro @iaS_some <| And.intro @fa_ptr <| And.intro @fa_dptr <| And.intro @faS_struct <| And.intro @faF_some <| And.intro @faG_some <| And.intro @field_agg <| And.intro @fiS_struct <| And.intro @fiF_some <| And.intro @pt_bool <| And.intro @pt_int <| And.intro @pt_string <| And.intro @pt_ptr <| And.intro @pt_slice <| And.intro @pt_map <| And.intro @pt_iface <| And.intro @pt_func <| And.intro @pt_struct <| And.intro @pt_arr <| And.intro @GTS_undef <| And.intro @GS_undef <| And.intro @off_dsl <| And.intro @off_int <| And.intro @off_str <| And.intro @off_slice <| And.intro @conv_intS <| And.intro @ciT_int <| And.intro @bs_T <| And.intro @bsT_slice <| And.intro @bsE_some <| And.intro @bsC_some <| And.intro @reps_succ <| And.intro @reps_zero <| And.intro @build_T <| And.intro @buildT_struct <| And.intro @structT_some <| And.intro @aggS_some <| And.intro @fp_nil <| And.intro @fp_cons <| And.intro @fpS_some <| And.intro @lfill_nil <| And.intro @lfill_cons <| And.intro @lfillAt_some <| And.intro @frzL_nil <| And.intro @frzL_cons <| And.intro @frz_int <| And.intro @frz_bool <| And.intro @frz_str <| And.intro @frz_nilp <| And.intro @frz_nilm <| And.intro @frz_nils <| And.intro @frz_nili <| And.intro @frz_iface <| And.intro @frz_dptr <| And.intro @frz_dsl <| And.intro @frz_agg <| And.intro @List.getElem?_cons_zero.{0} <| And.intro @List.getElem?_cons_succ.{0} <| And.intro @List.length_cons.{0} <| And.intro @List.length_nil.{0} <| And.intro @List.take_succ_cons.{0} <| And.intro @List.take_zero.{0} <| And.intro @List.drop_succ_cons.{0} <| And.intro @List.drop_zero.{0} <| And.intro @List.all_cons.{0} <| @List.all_nil.{0}
end AbsYtkhcbbpfchgemaaDoor
