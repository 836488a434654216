/-
  Parts of a law's proof.
-/
import Derived.Test.YtkhcbbpfchgemaaDoorAEnvD
import Derived.Test.YtkhcbbpfchgemaaDoorAMe
namespace Go.Proofs.YtkhcbbpfchgemaaDoor.AbsB
open Go AbsYtkhcbbpfchgemaaDoor Abs
set_option maxRecDepth 100000
set_option maxHeartbeats 4000000
set_option linter.unusedSimpArgs false
set_option linter.unusedVariables false
abbrev fv (r a : Int) (x : Value) : Value := .iface 72 (dptr [.int .i64 r,.int .i64 a,x])
def sent (n : Nat) : Value := .iface 135 (.pointer (some ⟨sblk n,0,none⟩))
theorem sblk_in {n : Nat} (h : 1 ≤ n ∧ n ≤ 7) : ng ≤ sblk n ∧ sblk n < nb := by
 have hall : ((List.range 8).all fun n => Nat.beq n 0 || (Nat.ble ng (sblk n) && Nat.blt (sblk n) nb)) = true := by decide
 rw [List.all_eq_true] at hall
 have h1 := hall n (List.mem_range.2 (by omega))
 rw [beq_ne (show n ≠ 0 by omega)] at h1
 simpa [Nat.ble_eq,Nat.blt_eq] using h1
theorem frz_sent {n : Nat} (h : 1 ≤ n ∧ n ≤ 7) : frz E.ng E.nb (sent n) = true := by
 have h1 := sblk_in h
 have h2 : E.nb = nb := rfl
 have h3 : E.ng = ng := rfl
 have h4 : ng + 2 ≤ nb := by decide
 rw [sent,frz_iface,frz_ptr,h2,h3]
 simp [h1.2,h4]
inductive ErN : Nat → Value → Nat → Prop
 | new {n : Nat} (r a : Int) (h : 1 ≤ n ∧ n ≤ 7) : ErN 1 (fv r a (sent n)) n
 | deeper {d : Nat} {x : Value} {n : Nat} (r a : Int) (h : ErN d x n) : ErN (d + 1) (fv r a x) n
theorem ErN.val {d n : Nat} {v : Value} (h : ErN d v n) : 1 ≤ d ∧ 1 ≤ n ∧ n ≤ 7 ∧ ∃ r a x,v = fv r a x := by
 induction h with
 | new r a h => exact ⟨by omega,h.1,h.2,r,a,_,rfl⟩
 | deeper r a h ih => exact ⟨by omega,ih.2.1,ih.2.2.1,r,a,_,rfl⟩
theorem ErN.deep {d n : Nat} {v : Value} (h : ErN d v n) : ∀ {k : Nat},d ≤ k → deepSent ec k v = some (sblk n) := by
 induction h with
 | new r a h =>
  intro k hk
  obtain ⟨k,rfl⟩ : ∃ m,k = m + 1 := ⟨k - 1,by omega⟩
  rfl
 | deeper r a h ih =>
  intro k hk
  obtain ⟨k,rfl⟩ : ∃ m,k = m + 1 := ⟨k - 1,by omega⟩
  obtain ⟨_,_,_,r',a',y,rfl⟩ := h.val
  exact ih (by omega)
theorem specNew {a b : Int} {n : Nat} (hn : 1 ≤ n ∧ n ≤ 7) {σ : AHeap} {Q : Value → AHeap → Prop} (h : Q (fv a b (sent n)) σ) : CallS E B 22 [.int .i64 a,.int .i64 b,sent n] σ Q := by
 have hx := frz_sent hn
 unfold sent at hx h ⊢
 rw [frz_iface] at hx
 refine call22 (by simp) ?_
 simp only [strip,bodyOf,Tryd.f22,getD_body,keepN,bareOp_mk,lessOp_mk,lapp_cons,lapp_nil,List.map_cons,List.map_nil,array_toList,↓reduceIte,Nat.reduceEqDiff,Bool.false_eq_true]
 simp (disch := first | assumption | simp) only [↓sbD,sbU,tyB,Nat.reduceMul,Nat.reduceSub,Int.reduceEq,Int.reduceLT,Int.reduceLE,Int.reduceNe,Nat.reduceBneDiff,Nat.reduceBEq,decide_false,gt_iff_lt,Bool.or_self,Bool.false_eq_true,Nat.mul_one,Nat.one_mul,Nat.zero_mul,↓reduceIte,Nat.reduceEqDiff,Nat.reduceLT,Nat.reduceAdd,Nat.reduceLeDiff,reduceCtorEq,goInt,pairs,isConst,TI.isAgg,splice,boxS,Edp,dpv,Nat.beq_eq,ZV.val,List.any_cons,List.any_nil,Bool.false_and,hx]
 exact downS_here h
theorem dpB : E.dp 56 = false := rfl
def emp : ByteArray := ⟨#[]⟩
theorem B_size : B.size = nb := by kernel_rfl
theorem base_live {b : Nat} (h : deadO (B.get b) = false) : B.get b ≠ .dead := deadO_iff.1 h
theorem base_out {b : Nat} (h : B.get b ≠ .dead) : b < nb := by
 rcases Nat.lt_or_ge b nb with h1 | h1
 ·exact h1
 ·exfalso; apply h
  have hl : (baseList ng 135 S handle).length = nb := by kernel_rfl
  show (heapOf (baseList ng 135 S handle)).get b = .dead
  rw [heapOf_get]
  simp only [List.getD,List.getElem?_eq_none (show (baseList ng 135 S handle).length ≤ b by omega),Option.getD_none]
structure ExtB (H : AHeap) : Prop where
 size : B.size ≤ H.size
 get : ∀ b,B.get b ≠ .dead → H.get b = B.get b
theorem ExtB.trans {H H' : AHeap} (h : ExtB H) (k : Ext H H') : ExtB H' :=
 ⟨Nat.le_trans h.size k.size,fun b hb => by rw [k.get b (Nat.lt_of_lt_of_le (by rw [B_size]; exact base_out hb) h.size),h.get b hb]⟩
theorem base_ext {σ H : AHeap} (h : Holds B σ H) : ExtB H := by
 refine ⟨?_,fun b hb => (h.base b hb).1⟩
 rw [B_size]
 have h0 : 0 < nb := by decide
 have := (h.base (nb - 1) (base_live (by kernel_rfl))).2
 omega
theorem ext_holds {H : AHeap} (h : Ext B H) : Holds B .empty H :=
 ⟨fun b hb => ⟨h.get b (by rw [B_size]; exact base_out hb),Nat.lt_of_lt_of_le (by rw [B_size]; exact base_out hb) h.size⟩,fun b hb => by
  exfalso; apply hb; simp [AHeap.get,AHeap.empty,Tr.get,Tr.getF]⟩
theorem of_W {f : Nat} {args : List Value} {P : Value → Prop} (h : ∀ H,ExtB H → CallW E f args H fun r H' => Ext H H' ∧ P r) {σ : AHeap} {Q : Value → AHeap → Prop} (hq : ∀ r,P r → Q r σ) : CallS E B f args σ Q :=
 fun H hH => (h H (base_ext hH)).mono fun r H' ⟨h1,h2⟩ => ⟨σ,hH.ext h1,hq r h2⟩
theorem glob {H : AHeap} (hB : ExtB H) : H.get 4 = .cells [sent 3] false 1 ∧ H.get 2 = .cells [sent 4] false 1 ∧ H.get 3 = .cells [sent 1] false 1 ∧ H.get 0 = .cells [sent 2] false 1 := by
 rw [hB.get 4 (base_live (by kernel_rfl)),hB.get 2 (base_live (by kernel_rfl)),hB.get 3 (base_live (by kernel_rfl)),hB.get 0 (base_live (by kernel_rfl))]
 exact ⟨by kernel_rfl,by kernel_rfl,by kernel_rfl,by kernel_rfl⟩
def Fault (H : AHeap) (e : Value) (reason at' : Int) (k : Nat) : Prop := e = fv reason at' (sent (k + 1))
theorem Fault.ext {H H' : AHeap} {e : Value} {r a : Int} {k : Nat} (h : Fault H e r a k) (x : Ext H H') : Fault H' e r a k := h
theorem buildF {a b : Int} {u : TypeId} {v : Value} : abuild E 74 [(0,.int .i64 a),(1,.int .i64 b),(2,.iface u v)] = some (.agg #[.int .i64 a,.int .i64 b,.iface u v]) := by
 simp [abuild,azero,tyB,fieldPlaces,lfill,splice,vcells,ZV.val]
theorem frz_sent' (n : Nat) : frz E.ng E.nb (sent n) = true := by
 by_cases h : 1 ≤ n ∧ n ≤ 7
 ·exact frz_sent h
 ·rcases (by omega : n = 0 ∨ 8 ≤ n) with rfl | h8
  ·exact frz_sent (n := 1) ⟨by omega,by omega⟩
  ·have : sblk n = 0 := by unfold sblk; simp only [List.getD]; rw [List.getElem?_eq_none (by simp only [List.length_cons,List.length_nil]; omega)]; rfl
   have h3 : 0 < E.ng := by decide
   rw [sent,frz_iface,frz_ptr,this]
   simp [h3]
theorem spec22 {a b : Int} {k : Nat} {H : AHeap} : CallW E 22 [.int .i64 a,.int .i64 b,sent (k + 1)] H fun r H' => Ext H H' ∧ Fault H' r a b k := by
 have hx := frz_sent' (k + 1)
 unfold sent at hx ⊢
 rw [frz_iface] at hx
 refine wcall22 (by simp) ?_
 simp only [strip,bodyOf,Tryd.f22,getD_body,keepN,bareOp_mk,lessOp_mk,lapp_cons,lapp_nil,List.map_cons,List.map_nil,array_toList,↓reduceIte,Nat.reduceEqDiff,Bool.false_eq_true]
 simp (disch := first | assumption | simp) only [↓wbD,wbU,↓aop,↓reduceIte,Nat.reduceEqDiff,Nat.reduceLT,reduceCtorEq,goInt,pairs,iface_eql ty34 rfl,buildF,vcells,ty72,Edp,dpv,frzL_cons,frzL_nil,frz_int,frz_iface,hx,Bool.and_self]
 exact ⟨Ext.refl _,rfl⟩
end Go.Proofs.YtkhcbbpfchgemaaDoor.AbsB
namespace Go.Proofs.YtkhcbbpfchgemaaDoor.AbsB
open Go AbsYtkhcbbpfchgemaaDoor Abs
set_option maxHeartbeats 4000000
set_option linter.unusedSimpArgs false
set_option linter.unusedVariables false

set_option maxRecDepth 100000
set_option linter.unusedSimpArgs false
set_option linter.unusedVariables false
def vsize (n : Nat) : Nat := if n < 128 then 1 else if n < 16384 then 2 else if n < 2097152 then 3 else 4
def digit (n j : Nat) : Nat := n / 128 ^ j % 128
def enc (n : Nat) : List Nat := (List.range (vsize n)).map fun j => if j + 1 < vsize n then digit n j + 128 else digit n j
def str (l : List Nat) : ByteArray := ⟨(l.map UInt8.ofNat).toArray⟩
theorem conv_i64 {H : AHeap} {n : Nat} (h : n < 256) : aconvert E H 5 3 (.int .u8 (n : Int)) = some (.int .i64 (n : Int),H) := by
 simp only [aconvert,dpB,Bool.false_eq_true,if_false,ty5,ty3]
 rw [wrap64 ⟨by omega,by omega⟩]

set_option maxRecDepth 100000
set_option linter.unusedSimpArgs false
set_option linter.unusedVariables false

set_option maxRecDepth 100000
set_option linter.unusedSimpArgs false
set_option linter.unusedVariables false
def pre (N j : Nat) : List Nat := (List.range j).map fun i => digit N i + 128

set_option maxRecDepth 100000
set_option linter.unusedSimpArgs false
set_option linter.unusedVariables false
def bt (s : ByteArray) (i : Nat) : Nat := match s[i]? with
 | some b => b.toNat
 | none => 0
theorem bt_lt (s : ByteArray) (i : Nat) : bt s i < 256 := by
 unfold bt; split
 ·rename_i b _; exact b.toNat_lt
 ·omega
theorem idx_str {s : ByteArray} {i : Nat} (h : i < s.size) : aindex E 9 (.string s) (.int .i64 (i : Int)) = some (.int .u8 ((bt s i : Nat) : Int)) := by
 have hs : s[i]? = some s[i] := getElem?_pos s i h
 simp only [aindex,ty9]
 rw [if_pos (by omega)]
 simp only [Int.toNat_natCast,bt,hs,Option.map_some]
def takeF (s : ByteArray) : Nat → Nat → Nat → (Nat × Nat) ⊕ (Nat × Nat)
 | 0,_,_ => .inr (1,3)
 | k + 1,i,n => if i = s.size then .inr (0,i) else
  if bt s i < 128 then (if bt s i = 0 ∧ 0 < i then .inr (1,i) else .inl (n + bt s i % 128 * 128 ^ i,i + 1)) else takeF s k (i + 1) (n + bt s i % 128 * 128 ^ i)
theorem shl7 {H : AHeap} {x i : Nat} {t : Nat} {cs : Bool} (hx : x < 128) (hi : i < 4) : abin E H .shl t cs (.int .i64 (x : Int)) (.int .i64 ((7 * i : Nat) : Int)) = some (.int .i64 ((x * 128 ^ i : Nat) : Int)) := by
 simp only [abin,ashift]
 rw [if_neg (by omega)]
 rcases (by omega : i = 0 ∨ i = 1 ∨ i = 2 ∨ i = 3) with rfl | rfl | rfl | rfl
 ·show some (Value.int .i64 (IntKind.i64.wrap ((x : Int) * 2 ^ 0))) = _
  rw [wrap64 ⟨by omega,by omega⟩]; simp
 ·show some (Value.int .i64 (IntKind.i64.wrap ((x : Int) * 2 ^ 7))) = _
  rw [wrap64 ⟨by omega,by omega⟩]; congr 2
 ·show some (Value.int .i64 (IntKind.i64.wrap ((x : Int) * 2 ^ 14))) = _
  rw [wrap64 ⟨by omega,by omega⟩]; congr 2
 ·show some (Value.int .i64 (IntKind.i64.wrap ((x : Int) * 2 ^ 21))) = _
  rw [wrap64 ⟨by omega,by omega⟩]; congr 2
theorem pow7 (i : Nat) : 128 ^ i = 2 ^ (7 * i) := by rw [Nat.pow_mul]
theorem pow_le {i : Nat} (h : i < 4) : 128 ^ i ≤ 2097152 := by
 rcases (by omega : i = 0 ∨ i = 1 ∨ i = 2 ∨ i = 3) with rfl | rfl | rfl | rfl <;> decide
theorem orT7 {n x i : Nat} (hn : n < 128 ^ i) (hx : x < 128) (hi : i < 4) : aint .or .i64 (n : Int) ((x * 128 ^ i : Nat) : Int) = some (.int .i64 ((n + x * 128 ^ i : Nat) : Int)) := by
 have h1 := pow_le hi
 have h2 : x * 128 ^ i ≤ 128 * 2097152 := Nat.mul_le_mul (by omega) h1
 have e : n ||| x * 128 ^ i = n + x * 128 ^ i := by
  have := or_add (n := n) (m := x) (i := 7 * i) (by rw [← pow7]; exact hn)
  rw [pow7]; exact this
 rw [abits_nat (by omega) (by omega) (by rw [e]; omega),e]
theorem next_lt {n x i : Nat} (hn : n < 128 ^ i) (hx : x < 128) : n + x * 128 ^ i < 128 ^ (i + 1) := by
 rw [Nat.pow_succ]
 have : x * 128 ^ i ≤ 127 * 128 ^ i := Nat.mul_le_mul_right _ (by omega)
 omega

theorem spec52 {s : ByteArray} {H : AHeap} (hB : ExtB H) (hs : s.size ≤ 100000000) : CallW E 52 [.string s] H fun r H' => Ext H H' ∧ match takeF s 4 0 0 with
  | .inl (n,k) => r = .tuple #[.int .i64 (n : Int),.int .i64 (k : Int),.nilIface]
  | .inr (kd,p) => ∃ e,r = .tuple #[.int .i64 0,.int .i64 0,e] ∧ Fault H' e 129 p kd := by
 refine wcall52 (by simp) ?_
 simp only [strip,bodyOf,Tryd.f52,getD_body,keepN,bareOp_mk,lessOp_mk,lapp_cons,lapp_nil,List.map_cons,List.map_nil,array_toList,↓reduceIte,Nat.reduceEqDiff,Bool.false_eq_true]
 have hg2 := (glob hB).2.2.1
 have hg3 := (glob hB).2.2.2
 have c0 : ∀ v : Value,([v] : List Value)[0]? = some v := fun v => rfl
 simp (disch := first | assumption | simp) only [↓wbD,wbU,↓aop,↓reduceIte,Nat.reduceEqDiff,Nat.reduceLT,reduceCtorEq,goInt,pairs]
 generalize hT0 : takeF s 4 0 0 = T
 refine W_loop (fun f H' => H' = H ∧ f 0 = .string s ∧ ∃ i n : Nat,i ≤ 4 ∧ i ≤ s.size ∧ f 8 = .int .i64 i ∧ f 5 = .int .i64 n ∧ n < 128 ^ i ∧ T = takeF s (4 - i) i n) (fun f _ => match f 8 with | .int _ i => 4 - i.toNat | _ => 0) ?_ ?_
 ·simp (disch := first | assumption | simp) only [↓wbD,wbU,↓aop,↓reduceIte,Nat.reduceEqDiff,Nat.reduceLT,reduceCtorEq,goInt,pairs]
  exact ⟨0,0,by omega,by omega,rfl,rfl,by simp,hT0.symm⟩
 rintro f H ⟨rfl,f0,i,n,hi,his,f8,f5,hn,hT⟩
 by_cases h4 : (i : Int) < 4
 ·have hk : 4 - i = (4 - (i + 1)) + 1 := by omega
  rw [hk] at hT
  simp only [takeF] at hT
  by_cases he : i = s.size
  ·have he' : decide ((i : Int) = (s.size : Int)) = true := decide_eq_true (by omega)
   rw [if_pos he] at hT
   subst hT
   simp (disch := first | assumption | simp) only [↓wbD,wbU,↓aop,↓reduceIte,Nat.reduceEqDiff,Nat.reduceLT,reduceCtorEq,goInt,pairs,f0,f5,f8,h4,decide_true,len_str ty9,he',aev_global,ld_cell ty34 rfl hg2,c0]
   refine spec22.mono ?_
   rintro r H' ⟨hx,hf⟩
   simp (disch := first | assumption | simp) only [↓wbD,wbU,↓aop,↓reduceIte,Nat.reduceEqDiff,Nat.reduceLT,reduceCtorEq,goInt,pairs]
   exact ⟨hx,_,rfl,hf⟩
  ·have he' : ¬ (i : Int) = (s.size : Int) := by omega
   rw [if_neg he] at hT
   have hb := bt_lt s i
   have hx := idx_str (s := s) (i := i) (by omega)
   have hm : IntKind.i64.wrap (7 * (i : Int)) = ((7 * i : Nat) : Int) := by rw [wrap64 ⟨by omega,by omega⟩]; rfl
   have ha : aint .and .i64 ((bt s i : Nat) : Int) 127 = some (.int .i64 ((bt s i % 128 : Nat) : Int)) := by rw [and127 (.inl rfl) (by omega) (by omega)]; rfl
   have ho := orT7 (x := bt s i % 128) hn (by omega) (by omega)
   have hnl := next_lt (x := bt s i % 128) hn (by omega)
   have hw := wrap_suc (n := i) (by omega)
   by_cases hc : bt s i < 128
   ·have hc' : ¬ (128 : Int) ≤ ((bt s i : Nat) : Int) := by omega
    rw [if_pos hc] at hT
    by_cases hz : bt s i = 0
    ·have hz' : decide (((bt s i : Nat) : Int) = 0) = true := decide_eq_true (by omega)
     by_cases hp : 0 < i
     ·have hp' : (0 : Int) < (i : Int) := by omega
      rw [if_pos ⟨hz,hp⟩] at hT
      subst hT
      simp (disch := first | assumption | simp) only [↓wbD,wbU,↓aop,↓reduceIte,Nat.reduceEqDiff,Nat.reduceLT,reduceCtorEq,goInt,pairs,f0,f5,f8,h4,decide_true,decide_false,len_str ty9,he',hx,conv_i64 hb,hm,aint_mul,ha,shl7 (show bt s i % 128 < 128 by omega) (show i < 4 by omega),ho,hc',hz',hp',aev_global,ld_cell ty34 rfl hg3,c0]
      refine spec22.mono ?_
      rintro r H' ⟨hx,hf⟩
      simp (disch := first | assumption | simp) only [↓wbD,wbU,↓aop,↓reduceIte,Nat.reduceEqDiff,Nat.reduceLT,reduceCtorEq,goInt,pairs]
      exact ⟨hx,_,rfl,hf⟩
     ·have hp' : ¬ (0 : Int) < (i : Int) := by omega
      rw [if_neg (fun h => hp h.2)] at hT
      subst hT
      simp (disch := first | assumption | simp) only [↓wbD,wbU,↓aop,↓reduceIte,Nat.reduceEqDiff,Nat.reduceLT,reduceCtorEq,goInt,pairs,f0,f5,f8,h4,decide_true,decide_false,len_str ty9,he',hx,conv_i64 hb,hm,aint_mul,ha,shl7 (show bt s i % 128 < 128 by omega) (show i < 4 by omega),ho,hc',hz',hp',hw]
      exact ⟨Ext.refl _,trivial⟩
    ·have hz' : ¬ ((bt s i : Nat) : Int) = 0 := by omega
     rw [if_neg (fun h => hz h.1)] at hT
     subst hT
     simp (disch := first | assumption | simp) only [↓wbD,wbU,↓aop,↓reduceIte,Nat.reduceEqDiff,Nat.reduceLT,reduceCtorEq,goInt,pairs,f0,f5,f8,h4,decide_true,decide_false,len_str ty9,he',hx,conv_i64 hb,hm,aint_mul,ha,shl7 (show bt s i % 128 < 128 by omega) (show i < 4 by omega),ho,hc',hz',hw]
     exact ⟨Ext.refl _,trivial⟩
   ·have hc' : (128 : Int) ≤ ((bt s i : Nat) : Int) := by omega
    rw [if_neg hc] at hT
    simp (disch := first | assumption | simp) only [↓wbD,wbU,↓aop,↓reduceIte,Nat.reduceEqDiff,Nat.reduceLT,reduceCtorEq,goInt,pairs,f0,f5,f8,h4,decide_true,decide_false,len_str ty9,he',hx,conv_i64 hb,hm,aint_mul,ha,shl7 (show bt s i % 128 < 128 by omega) (show i < 4 by omega),ho,hc',hw]
    refine ⟨_,rfl,⟨?_,i + 1,_,by omega,by omega,?_,?_,hnl,hT⟩,?_⟩
    ·simp (disch := first | assumption | simp) only [↓wbD,wbU,↓aop,↓reduceIte,Nat.reduceEqDiff,Nat.reduceLT,reduceCtorEq,goInt,pairs,f0]
    ·simp (disch := first | assumption | simp) only [↓wbD,wbU,↓aop,↓reduceIte,Nat.reduceEqDiff,Nat.reduceLT,reduceCtorEq,goInt,pairs]
    ·simp (disch := first | assumption | simp) only [↓wbD,wbU,↓aop,↓reduceIte,Nat.reduceEqDiff,Nat.reduceLT,reduceCtorEq,goInt,pairs]
    ·simp (disch := first | assumption | simp) only [↓wbD,wbU,↓aop,↓reduceIte,Nat.reduceEqDiff,Nat.reduceLT,reduceCtorEq,goInt,pairs,f8]
     simp; omega
 ·obtain rfl : i = 4 := by omega
  have : takeF s (4 - 4) 4 n = .inr (1,3) := rfl
  rw [this] at hT
  subst hT
  simp (disch := first | assumption | simp) only [↓wbD,wbU,↓aop,↓reduceIte,Nat.reduceEqDiff,Nat.reduceLT,reduceCtorEq,goInt,pairs,f8,h4,decide_false,aev_global,ld_cell ty34 rfl hg3,c0]
  refine spec22.mono ?_
  rintro r H' ⟨hx,hf⟩
  simp (disch := first | assumption | simp) only [↓wbD,wbU,↓aop,↓reduceIte,Nat.reduceEqDiff,Nat.reduceLT,reduceCtorEq,goInt,pairs]
  exact ⟨hx,_,rfl,hf⟩
end Go.Proofs.YtkhcbbpfchgemaaDoor.AbsB
