/-
  Parts of a law's proof.
-/
import Derived.Test.YtjkhhdknplelcaaGreatDoorAEnvD
import Derived.Test.YtjkhhdknplelcaaGreatDoorAMe
namespace Go.Proofs.YtjkhhdknplelcaaGreatDoor.AbsB
open Go AbsYtjkhhdknplelcaaGreatDoor Abs
set_option maxRecDepth 100000
set_option maxHeartbeats 4000000
set_option linter.unusedSimpArgs false
set_option linter.unusedVariables false
abbrev fv (r a : Int) (x : Value) : Value := .iface 107 (dptr [.int .i64 r,.int .i64 a,x])
def sent (n : Nat) : Value := .iface 196 (.pointer (some ⟨sblk n,0,none⟩))
theorem sblk_in {n : Nat} (h : 1 ≤ n ∧ n ≤ 7) : ng ≤ sblk n ∧ sblk n < nb := by
 have hall : ((List.range 8).all fun n => Nat.beq n 0 || (Nat.ble ng (sblk n) && Nat.blt (sblk n) nb)) = true := by decide
 rw [List.all_eq_true] at hall
 have h1 := hall n (List.mem_range.2 (by omega))
 rw [beq_ne (show n ≠ 0 by omega)] at h1
 simpa [Nat.ble_eq,Nat.blt_eq] using h1
theorem frz_sent {n : Nat} (h : 1 ≤ n ∧ n ≤ 7) : frz E.ng E.nb (sent n) = true := by
 have h1 := sblk_in h
 have h2 : E.nb = nb := rfl
 have h3 : E.ng = ng := rfl
 have h4 : ng + 2 ≤ nb := by decide
 rw [sent,frz_iface,frz_ptr,h2,h3]
 simp [h1.2,h4]
inductive ErN : Nat → Value → Nat → Prop
 | new {n : Nat} (r a : Int) (h : 1 ≤ n ∧ n ≤ 7) : ErN 1 (fv r a (sent n)) n
 | deeper {d : Nat} {x : Value} {n : Nat} (r a : Int) (h : ErN d x n) : ErN (d + 1) (fv r a x) n
theorem ErN.val {d n : Nat} {v : Value} (h : ErN d v n) : 1 ≤ d ∧ 1 ≤ n ∧ n ≤ 7 ∧ ∃ r a x,v = fv r a x := by
 induction h with
 | new r a h => exact ⟨by omega,h.1,h.2,r,a,_,rfl⟩
 | deeper r a h ih => exact ⟨by omega,ih.2.1,ih.2.2.1,r,a,_,rfl⟩
theorem ErN.deep {d n : Nat} {v : Value} (h : ErN d v n) : ∀ {k : Nat},d ≤ k → deepSent ec k v = some (sblk n) := by
 induction h with
 | new r a h =>
  intro k hk
  obtain ⟨k,rfl⟩ : ∃ m,k = m + 1 := ⟨k - 1,by omega⟩
  rfl
 | deeper r a h ih =>
  intro k hk
  obtain ⟨k,rfl⟩ : ∃ m,k = m + 1 := ⟨k - 1,by omega⟩
  obtain ⟨_,_,_,r',a',y,rfl⟩ := h.val
  exact ih (by omega)
theorem is_nil {σ : AHeap} {j : Nat} {Q : Value → AHeap → Prop} (hq : Q (.bool false) σ) : CallS E B 84 [.nilIface,sent j] σ Q :=
 fun H hH => w_special (g := isSpec ec ng nb) rfl rfl ⟨σ,hH,hq⟩
theorem specNew {a b : Int} {n : Nat} (hn : 1 ≤ n ∧ n ≤ 7) {σ : AHeap} {Q : Value → AHeap → Prop} (h : Q (fv a b (sent n)) σ) : CallS E B 40 [.int .i64 a,.int .i64 b,sent n] σ Q := by
 have hx := frz_sent hn
 unfold sent at hx h ⊢
 rw [frz_iface] at hx
 refine call40 (by simp) ?_
 simp only [strip,bodyOf,Tryz.f40,getD_body,keepN,bareOp_mk,List.map_cons,List.map_nil,↓reduceIte,Bool.false_eq_true]
 simp only [↓sbD,sbU,tyB,↓reduceIte,Nat.reduceEqDiff,Nat.reduceLT,Nat.reduceAdd,Nat.reduceLeDiff,reduceCtorEq,pairs,isConst,splice,boxS,Edp,dpv,ZV.val,hx]
 exact downS_here h
theorem dpB : E.dp 58 = false := rfl
def emp : ByteArray := ⟨#[]⟩
theorem B_size : B.size = nb := by kernel_rfl
theorem base_live {b : Nat} (h : deadO (B.get b) = false) : B.get b ≠ .dead := deadO_iff.1 h
theorem base_out {b : Nat} (h : B.get b ≠ .dead) : b < nb := by
 rcases Nat.lt_or_ge b nb with h1 | h1
 ·exact h1
 ·exfalso; apply h
  have hl : (baseList ng 196 S handle).length = nb := by kernel_rfl
  show (heapOf (baseList ng 196 S handle)).get b = .dead
  rw [heapOf_get]
  simp only [List.getD,List.getElem?_eq_none (show (baseList ng 196 S handle).length ≤ b by omega),Option.getD_none]
structure ExtB (H : AHeap) : Prop where
 size : B.size ≤ H.size
 get : ∀ b,B.get b ≠ .dead → H.get b = B.get b
theorem ExtB.trans {H H' : AHeap} (h : ExtB H) (k : Ext H H') : ExtB H' :=
 ⟨Nat.le_trans h.size k.size,fun b hb => by rw [k.get b (Nat.lt_of_lt_of_le (by rw [B_size]; exact base_out hb) h.size),h.get b hb]⟩
theorem base_ext {σ H : AHeap} (h : Holds B σ H) : ExtB H := by
 refine ⟨?_,fun b hb => (h.base b hb).1⟩
 rw [B_size]
 have h0 : 0 < nb := by decide
 have := (h.base (nb - 1) (base_live (by kernel_rfl))).2
 omega
theorem ext_holds {H : AHeap} (h : Ext B H) : Holds B .empty H :=
 ⟨fun b hb => ⟨h.get b (by rw [B_size]; exact base_out hb),Nat.lt_of_lt_of_le (by rw [B_size]; exact base_out hb) h.size⟩,fun b hb => by
  exfalso; apply hb; simp [AHeap.get,AHeap.empty,Tr.get,Tr.getF]⟩
theorem of_W {f : Nat} {args : List Value} {P : Value → Prop} (h : ∀ H,ExtB H → CallW E f args H fun r H' => Ext H H' ∧ P r) {σ : AHeap} {Q : Value → AHeap → Prop} (hq : ∀ r,P r → Q r σ) : CallS E B f args σ Q :=
 fun H hH => (h H (base_ext hH)).mono fun r H' ⟨h1,h2⟩ => ⟨σ,hH.ext h1,hq r h2⟩
theorem glob {H : AHeap} (hB : ExtB H) : H.get 1 = .cells [sent 3] false 1 ∧ H.get 4 = .cells [sent 4] false 1 ∧ H.get 3 = .cells [sent 1] false 1 ∧ H.get 0 = .cells [sent 2] false 1 := by
 rw [hB.get 1 (base_live (by kernel_rfl)),hB.get 4 (base_live (by kernel_rfl)),hB.get 3 (base_live (by kernel_rfl)),hB.get 0 (base_live (by kernel_rfl))]
 exact ⟨by kernel_rfl,by kernel_rfl,by kernel_rfl,by kernel_rfl⟩
def Fault (H : AHeap) (e : Value) (reason at' : Int) (k : Nat) : Prop := e = fv reason at' (sent (k + 1))
theorem Fault.ext {H H' : AHeap} {e : Value} {r a : Int} {k : Nat} (h : Fault H e r a k) (x : Ext H H') : Fault H' e r a k := h
theorem buildF {a b : Int} {u : TypeId} {v : Value} : abuild E 111 [(0,.int .i64 a),(1,.int .i64 b),(2,.iface u v)] = some (.agg #[.int .i64 a,.int .i64 b,.iface u v]) := by
 simp [abuild,azero,tyB,fieldPlaces,lfill,splice,vcells,ZV.val]
theorem frz_sent' (n : Nat) : frz E.ng E.nb (sent n) = true := by
 by_cases h : 1 ≤ n ∧ n ≤ 7
 ·exact frz_sent h
 ·rcases (by omega : n = 0 ∨ 8 ≤ n) with rfl | h8
  ·exact frz_sent (n := 1) ⟨by omega,by omega⟩
  ·have : sblk n = 0 := by unfold sblk; simp only [List.getD]; rw [List.getElem?_eq_none (by simp only [List.length_cons,List.length_nil]; omega)]; rfl
   have h3 : 0 < E.ng := by decide
   rw [sent,frz_iface,frz_ptr,this]
   simp [h3]
theorem spec40 {a b : Int} {k : Nat} {H : AHeap} : CallW E 40 [.int .i64 a,.int .i64 b,sent (k + 1)] H fun r H' => Ext H H' ∧ Fault H' r a b k := by
 have hx := frz_sent' (k + 1)
 unfold sent at hx ⊢
 rw [frz_iface] at hx
 refine wcall40 (by simp) ?_
 simp only [strip,bodyOf,Tryz.f40,getD_body,keepN,bareOp_mk,List.map_cons,List.map_nil,↓reduceIte,Bool.false_eq_true]
 simp only [↓wbD,wbU,↓aop,↓reduceIte,Nat.reduceEqDiff,Nat.reduceLT,reduceCtorEq,pairs,iface_eql ty35 rfl,buildF,vcells,ty107,Edp,dpv,frzL_cons,frzL_nil,frz_int,frz_iface,hx,Bool.and_self]
 exact ⟨Ext.refl _,rfl⟩
end Go.Proofs.YtjkhhdknplelcaaGreatDoor.AbsB
namespace Go.Proofs.YtjkhhdknplelcaaGreatDoor.AbsB
open Go AbsYtjkhhdknplelcaaGreatDoor Abs
set_option maxHeartbeats 4000000
set_option linter.unusedSimpArgs false
set_option linter.unusedVariables false

set_option maxRecDepth 100000
set_option linter.unusedSimpArgs false
set_option linter.unusedVariables false
theorem wrap8 {n : Int} (h : 0 ≤ n ∧ n < 256) : IntKind.u8.wrap n = n := IntWalk.u8_in n (by omega)
def vsize (n : Nat) : Nat := if n < 128 then 1 else if n < 16384 then 2 else if n < 2097152 then 3 else 4
theorem vsize_pos (n : Nat) : 1 ≤ vsize n ∧ vsize n ≤ 4 := by
 simp only [vsize]
 by_cases h1 : n < 128
 ·simp [h1]
 ·by_cases h2 : n < 16384
  ·simp [h1,h2]
  ·by_cases h3 : n < 2097152 <;> simp [h1,h2,h3]
theorem vsize_div {n : Nat} (h : 128 ≤ n) (h' : n < 268435456) : vsize (n / 128) + 1 = vsize n := by
 rcases (by omega : n < 16384 ∨ (16384 ≤ n ∧ n < 2097152) ∨ 2097152 ≤ n) with h1 | h1 | h1
 ·simp only [vsize]; rw [if_pos (by omega : n / 128 < 128),if_neg (by omega : ¬ n < 128),if_pos h1]
 ·simp only [vsize]; rw [if_neg (by omega : ¬ n / 128 < 128),if_pos (by omega : n / 128 < 16384),if_neg (by omega : ¬ n < 128),if_neg (by omega : ¬ n < 16384),if_pos h1.2]
 ·simp only [vsize]; rw [if_neg (by omega : ¬ n / 128 < 128),if_neg (by omega : ¬ n / 128 < 16384),if_pos (by omega : n / 128 < 2097152),if_neg (by omega : ¬ n < 128),if_neg (by omega : ¬ n < 16384),if_neg (by omega : ¬ n < 2097152)]
def digit (n j : Nat) : Nat := n / 128 ^ j % 128
def enc (n : Nat) : List Nat := (List.range (vsize n)).map fun j => if j + 1 < vsize n then digit n j + 128 else digit n j
def u8s (l : List Nat) : List Value := l.map fun n : Nat => .int .u8 (n : Int)
def str (l : List Nat) : ByteArray := ⟨(l.map UInt8.ofNat).toArray⟩
theorem str_size (l : List Nat) : (str l).size = l.length := by simp [str,ByteArray.size]
theorem mapM_u8 : ∀ (l : List Nat),(u8s l).mapM byteOfV = some (l.map UInt8.ofNat)
 | [] => rfl
 | n :: l => by
  have h := mapM_u8 l
  simp only [u8s,List.map_cons,List.mapM_cons] at h ⊢
  rw [h]
  simp [byteOfV]
theorem conv_str {H : AHeap} {b n c : Nat} {ex : Option Nat} {l : List Nat} {wr : Bool} (hg : H.get b = .cells (u8s l) wr 1) (hn : n = l.length) : aconvert E H 58 9 (.slice (some ⟨b,0,ex⟩) n c) = some (.string (str l),H) := by
 have hl : (u8s l).length = l.length := by simp [u8s]
 have ht : takeCells H b 0 n = some (u8s l) := by
  unfold takeCells
  rw [hg]
  simp only [Nat.zero_add]
  rw [if_pos (by omega)]
  simp [List.take_of_length_le,hl,hn]
 simp only [aconvert,ty58,ty9,ty5,ht,mapM_u8,str,Option.map_some]
theorem conv_u8 {H : AHeap} {n : Nat} (h : n < 256) : aconvert E H 3 5 (.int .i64 (n : Int)) = some (.int .u8 (n : Int),H) := by
 simp only [aconvert,ty3,ty5]
 rw [wrap8 ⟨by omega,by omega⟩]
theorem conv_i64 {H : AHeap} {n : Nat} (h : n < 256) : aconvert E H 5 3 (.int .u8 (n : Int)) = some (.int .i64 (n : Int),H) := by
 simp only [aconvert,ty5,ty3]
 rw [wrap64 ⟨by omega,by omega⟩]
theorem spec158 {n : Int} {H : AHeap} : CallW E 158 [.int .i64 n] H fun r H' => r = .int .i64 (if n < 0 ∨ 268435455 < n then 0 else (vsize n.toNat : Int)) ∧ H' = H := by
 refine wcall158 (by simp) ?_
 simp only [strip,bodyOf,Tryz.f158,getD_body,keepN,bareOp_mk,List.map_cons,List.map_nil,↓reduceIte,Bool.false_eq_true]
 by_cases h0 : n < 0
 ·simp (disch := first | assumption | simp) only [↓wbD,wbU,↓aop,↓reduceIte,Nat.reduceEqDiff,Nat.reduceLT,reduceCtorEq,h0,decide_true,true_or]
 ·by_cases h1 : 268435455 < n
  ·simp (disch := first | assumption | simp) only [↓wbD,wbU,↓aop,↓reduceIte,Nat.reduceEqDiff,Nat.reduceLT,reduceCtorEq,h0,h1,decide_true,decide_false,or_true]
  ·simp (disch := first | assumption | simp) only [↓wbD,wbU,↓aop,↓reduceIte,Nat.reduceEqDiff,Nat.reduceLT,reduceCtorEq,h0,h1,decide_false,or_self]
   refine W_loop (fun f H' => H' = H ∧ ∃ m s : Nat,f 0 = .int .i64 m ∧ f 3 = .int .i64 s ∧ m < 268435456 ∧ s + vsize m = vsize n.toNat + 1) (fun f _ => match f 0 with | .int _ m => m.toNat | _ => 0) ?_ ?_
   ·simp (disch := first | assumption | simp) only [wbU,↓reduceIte,reduceCtorEq]
    exact ⟨n.toNat,1,by rw [show ((n.toNat : Nat) : Int) = n by omega],rfl,by omega,by omega⟩
   ·rintro f H ⟨rfl,m,s,f0,f3,hm,hs⟩
    have vp := vsize_pos m
    have vn := vsize_pos n.toNat
    by_cases hc : (128 : Int) ≤ (m : Int)
    ·have hd := vsize_div (n := m) (by omega) hm
     have hq := quo_pos (a := (m : Int)) (b := 128) (by omega) (by omega) (by omega)
     have hw := wrap_suc (n := s) (by omega)
     simp (disch := first | assumption | simp) only [↓wbD,wbU,↓aop,↓reduceIte,Nat.reduceEqDiff,Nat.reduceLT,reduceCtorEq,f0,f3,hc,decide_true,hq,hw]
     refine ⟨_,rfl,⟨m / 128,s + 1,?_,?_,by omega,by omega⟩,?_⟩
     ·simp (disch := first | assumption | simp) only [wbU,↓reduceIte,reduceCtorEq]
      rfl
     ·simp (disch := first | assumption | simp) only [wbU,↓reduceIte]
     ·simp (disch := first | assumption | simp) only [wbU,↓reduceIte,reduceCtorEq]
      simp; omega
    ·have hv : vsize m = 1 := by unfold vsize; rw [if_pos (by omega)]
     simp (disch := first | assumption | simp) only [↓wbD,wbU,↓aop,↓reduceIte,Nat.reduceEqDiff,Nat.reduceLT,f0,f3,hc,decide_false]
     have : s = vsize n.toNat := by omega
     rw [this]; exact ⟨rfl,trivial⟩

set_option maxRecDepth 100000
set_option linter.unusedSimpArgs false
set_option linter.unusedVariables false
theorem u8s_len (l : List Nat) : (u8s l).length = l.length := by simp [u8s]
theorem u8s_get {l : List Nat} {i : Nat} (h : i < l.length) : (u8s l)[i]? = some (.int .u8 ((l[i] : Nat) : Int)) := by simp [u8s,h]
theorem u8s_set (l : List Nat) (i n : Nat) : (u8s l).set i (.int .u8 (n : Int)) = u8s (l.set i n) := by simp [u8s,List.map_set]
theorem make71 {H : AHeap} {s : Nat} (h : s ≤ 1000) : amakeSlice E H 58 (.int .i64 (s : Int)) (.int .i64 (s : Int)) = some (.slice (some ⟨H.size,0,some 1⟩) s s,H.alloc (.cells (u8s (List.replicate s 0)) true 1)) := by
 have e : reps [.int .u8 0] s = u8s (List.replicate s 0) := by rw [reps_one]; simp [u8s]
 have hz : azero E 5 = some [.int .u8 0] := rfl
 simp only [amakeSlice,ty58,ty5,hz]
 rw [if_pos ⟨by omega,by omega,by omega,by omega,by omega,rfl⟩]
 simp only [Int.toNat_natCast,e]
def digs (s N k : Nat) : List Nat := (List.range s).map fun j => if j < k then digit N j + 128 else 0
theorem digs_len (s N k : Nat) : (digs s N k).length = s := by simp [digs]
theorem digs_set {s N k : Nat} (h : k < s) : (digs s N k).set k (digit N k + 128) = digs s N (k + 1) := by
 apply List.ext_getElem
 ·simp [digs]
 ·intro i h1 h2
  simp only [digs,List.length_set,List.length_map,List.length_range] at h1
  simp only [digs,List.getElem_set,List.getElem_map,List.getElem_range]
  by_cases hk : k = i
  ·subst hk; simp
  ·rw [if_neg hk]
   by_cases h3 : i < k
   ·rw [if_pos h3,if_pos (by omega)]
   ·rw [if_neg h3,if_neg (by omega)]
theorem digs_end {s N : Nat} (hs : s = vsize N) (h : 0 < s) : (digs s N s).set (s - 1) (digit N (s - 1)) = enc N := by
 apply List.ext_getElem
 ·simp [digs,enc,hs]
 ·intro i h1 h2
  simp only [digs,List.length_set,List.length_map,List.length_range] at h1
  simp only [digs,enc,List.getElem_set,List.getElem_map,List.getElem_range,← hs]
  by_cases hk : s - 1 = i
  ·subst hk; rw [if_pos rfl,if_neg (by omega)]
  ·rw [if_neg hk,if_pos h1,if_pos (by omega)]
theorem digs_zero (s N : Nat) : digs s N 0 = List.replicate s 0 := by
 apply List.ext_getElem
 ·simp [digs]
 ·intro i h1 h2; simp [digs]
theorem digit_lt (N j : Nat) : digit N j < 128 := Nat.mod_lt _ (by omega)
theorem div_next (N k : Nat) : N / 128 ^ k / 128 = N / 128 ^ (k + 1) := by rw [Nat.div_div_eq_div_mul,Nat.pow_succ]
theorem spec134 {n : Int} {H : AHeap} (hB : ExtB H) : CallW E 134 [.int .i64 n] H fun r H' => Ext H H' ∧
  if n < 0 ∨ 268435455 < n then ∃ e,r = .tuple #[.string emp,e] ∧ Fault H' e 129 0 3 else r = .tuple #[.string (str (enc n.toNat)),.nilIface] := by
 refine wcall134 (by simp) ?_
 simp only [strip,bodyOf,Tryz.f134,getD_body,keepN,bareOp_mk,List.map_cons,List.map_nil,↓reduceIte,Bool.false_eq_true]
 simp (disch := first | assumption | simp) only [↓wbD,wbU,↓aop,↓reduceIte,Nat.reduceLT,reduceCtorEq]
 refine spec158.mono ?_
 rintro r H ⟨rfl,rfl⟩
 by_cases hb : n < 0 ∨ 268435455 < n
 ·have hg := (glob hB).2.1
  have c0 : ∀ v : Value,([v] : List Value)[0]? = some v := fun v => rfl
  simp (disch := first | assumption | simp) only [↓wbD,wbU,↓aop,↓reduceIte,Nat.reduceLT,hb,decide_true,aev_global,ld_cell ty35 rfl hg,c0]
  refine spec40.mono ?_
  rintro r H' ⟨hx,hf⟩
  simp (disch := first | assumption | simp) only [↓wbD,wbU,↓aop,↓reduceIte,Nat.reduceEqDiff,Nat.reduceLT]
  exact ⟨hx,_,rfl,hf⟩
 ·obtain ⟨N,rfl⟩ : ∃ N : Nat,n = N := ⟨n.toNat,by omega⟩
  simp only [Int.toNat_natCast] at *
  have hv := vsize_pos N
  have hne : ¬ (vsize N : Int) = 0 := by omega
  obtain ⟨s,hs⟩ : ∃ s,s = vsize N := ⟨_,rfl⟩
  rw [← hs] at hne hv ⊢
  have hlen : ∀ K,abuiltin E K .len [58] [.slice (some ⟨H.size,0,some 1⟩) s s] = some (goInt s,K) := fun K => by simp [abuiltin,ty58]
  simp (disch := first | assumption | simp) only [↓wbD,wbU,↓aop,↓reduceIte,Nat.reduceEqDiff,Nat.reduceLT,goInt,hb,hne,decide_false,make71 (show s ≤ 1000 by omega),hlen]
  have hx : Ext H (H.alloc (.cells (u8s (List.replicate s 0)) true 1)) := Ext.alloc _ _
  have hg : (H.alloc (.cells (u8s (List.replicate s 0)) true 1)).get H.size = .cells (u8s (digs s N 0)) true 1 := by rw [digs_zero]; exact AHeap.get_alloc_same _ _
  generalize H.alloc (.cells (u8s (List.replicate s 0)) true 1) = H1 at hx hg
  refine W_loop (fun f H' => Ext H H' ∧ f 4 = .int .i64 s ∧ f 5 = .slice (some ⟨H.size,0,some 1⟩) s s ∧ f 16 = .int .i64 s ∧ ∃ k : Nat,k ≤ s ∧ f 17 = .int .i64 k ∧ f 0 = .int .i64 ((N / 128 ^ k : Nat) : Int) ∧ H'.get H.size = .cells (u8s (digs s N k)) true 1) (fun f _ => match f 17 with | .int _ k => s - k.toNat | _ => 0) ?_ ?_
  ·simp (disch := first | assumption | simp) only [wbU,↓reduceIte,Nat.reduceEqDiff,reduceCtorEq]
   exact ⟨hx,0,by omega,rfl,by simp,hg⟩
  clear hx hg H1
  rintro f H1 ⟨hx,f4,f5,f16,k,hk,f17,f0,hg⟩
  by_cases hks : (k : Int) < (s : Int)
  ·have hw := wrap_suc (n := k) (by omega)
   have hr : aint .rem .i64 ((N / 128 ^ k : Nat) : Int) 128 = some (.int .i64 ((digit N k : Nat) : Int)) := by rw [rem_pos (Int.natCast_nonneg _) (by omega)]; rfl
   have ho : aint .or .i64 ((digit N k : Nat) : Int) 128 = some (.int .i64 ((digit N k + 128 : Nat) : Int)) := by rw [or128 (by omega) (by have := digit_lt N k; omega)]; rfl
   have hq : aint .quo .i64 ((N / 128 ^ k : Nat) : Int) 128 = some (.int .i64 ((N / 128 ^ (k + 1) : Nat) : Int)) := by
    have : N / 128 ^ k ≤ N := Nat.div_le_self _ _
    have h0 : (0 : Int) ≤ ((N / 128 ^ k : Nat) : Int) := Int.natCast_nonneg _
    rw [quo_pos h0 (by generalize N / 128 ^ k = z at *; omega) (by omega),← div_next]; rfl
   have hst := st_cell (E := E) (t := 5) (o := k) (v := .int .u8 ((digit N k + 128 : Nat) : Int)) ty5 rfl hg (by rw [u8s_len,digs_len]; omega) rfl rfl
   rw [splice_one (by rw [u8s_len,digs_len]; omega),u8s_set,digs_set (by omega)] at hst
   simp (disch := first | assumption | simp) only [↓wbD,wbU,↓aop,↓reduceIte,Nat.reduceEqDiff,Nat.reduceLT,reduceCtorEq,f0,f5,f16,f17,hks,decide_true,hr,ho,hq,conv_u8 (show digit N k + 128 < 256 by have := digit_lt N k; omega),ia_slice ty58 ty5 (show k < s by omega),Nat.zero_add,Nat.mul_one,hst,hw]
   refine ⟨_,rfl,⟨⟨?_,fun b hb => ?_⟩,?_,?_,?_,k + 1,by omega,?_,?_,AHeap.get_set_same _ _ _⟩,?_⟩
   ·rw [AHeap.size_set]; exact hx.size
   ·rw [AHeap.get_set_ne _ _ (by omega)]; exact hx.get b hb
   ·simp (disch := first | assumption | simp) only [wbU,↓reduceIte,Nat.reduceEqDiff,reduceCtorEq,f4]
   ·simp (disch := first | assumption | simp) only [wbU,↓reduceIte,Nat.reduceEqDiff,reduceCtorEq,f5]
   ·simp (disch := first | assumption | simp) only [wbU,↓reduceIte,Nat.reduceEqDiff,reduceCtorEq,f16]
   ·simp (disch := first | assumption | simp) only [wbU,↓reduceIte]
   ·simp (disch := first | assumption | simp) only [wbU,↓reduceIte,reduceCtorEq]
   ·simp (disch := first | assumption | simp) only [wbU,↓reduceIte]
    simp; omega
  ·obtain rfl : k = s := by omega
   have hw : IntKind.i64.wrap ((k : Int) - 1) = ((k - 1 : Nat) : Int) := by rw [wrap64 ⟨by omega,by omega⟩]; omega
   have hd : (digs k N k)[k - 1]'(by rw [digs_len]; omega) = digit N (k - 1) + 128 := by simp [digs]; omega
   have hl : (u8s (digs k N k))[k - 1]? = some (.int .u8 ((digit N (k - 1) + 128 : Nat) : Int)) := by rw [u8s_get (by rw [digs_len]; omega),hd]
   have ha : aint .and .u8 ((digit N (k - 1) + 128 : Nat) : Int) 127 = some (.int .u8 ((digit N (k - 1) : Nat) : Int)) := by
    have := digit_lt N (k - 1)
    rw [and127 (.inr rfl) (by omega) (by omega)]
    congr 2; omega
   have hst := st_cell (E := E) (t := 5) (o := k - 1) (v := .int .u8 ((digit N (k - 1) : Nat) : Int)) ty5 rfl hg (by rw [u8s_len,digs_len]; omega) rfl rfl
   rw [splice_one (by rw [u8s_len,digs_len]; omega),u8s_set,digs_end hs (by omega)] at hst
   have hg2 := AHeap.get_set_same H1 H.size (.cells (u8s (enc N)) true 1)
   simp (disch := first | assumption | simp) only [↓wbD,wbU,↓aop,↓reduceIte,Nat.reduceEqDiff,Nat.reduceLT,f4,f5,f16,f17,hks,decide_false,hw,ia_slice ty58 ty5 (show k - 1 < k by omega),Nat.zero_add,Nat.mul_one,ld_cell ty5 rfl hg,hl,ha,hst,conv_str hg2 (show k = (enc N).length by simp [enc,hs])]
   refine ⟨⟨by rw [AHeap.size_set]; exact hx.size,fun b hb => by rw [AHeap.get_set_ne _ _ (by omega)]; exact hx.get b hb⟩,trivial⟩

set_option maxRecDepth 100000
set_option linter.unusedSimpArgs false
set_option linter.unusedVariables false
def pre (N j : Nat) : List Nat := (List.range j).map fun i => digit N i + 128

set_option maxRecDepth 100000
set_option linter.unusedSimpArgs false
set_option linter.unusedVariables false
def bt (s : ByteArray) (i : Nat) : Nat := match s[i]? with
 | some b => b.toNat
 | none => 0
theorem bt_lt (s : ByteArray) (i : Nat) : bt s i < 256 := by
 unfold bt; split
 ·rename_i b _; exact b.toNat_lt
 ·omega
theorem idx_str {s : ByteArray} {i : Nat} (h : i < s.size) : aindex E 9 (.string s) (.int .i64 (i : Int)) = some (.int .u8 ((bt s i : Nat) : Int)) := by
 have hs : s[i]? = some s[i] := getElem?_pos s i h
 simp only [aindex,ty9]
 rw [if_pos (by omega)]
 simp only [Int.toNat_natCast,bt,hs,Option.map_some]
def takeF (s : ByteArray) : Nat → Nat → Nat → (Nat × Nat) ⊕ (Nat × Nat)
 | 0,_,_ => .inr (1,3)
 | k + 1,i,n => if i = s.size then .inr (0,i) else
  if bt s i < 128 then (if bt s i = 0 ∧ 0 < i then .inr (1,i) else .inl (n + bt s i % 128 * 128 ^ i,i + 1)) else takeF s k (i + 1) (n + bt s i % 128 * 128 ^ i)
theorem shl7 {H : AHeap} {x i : Nat} {t : Nat} {cs : Bool} (hx : x < 128) (hi : i < 4) : abin E H .shl t cs (.int .i64 (x : Int)) (.int .i64 ((7 * i : Nat) : Int)) = some (.int .i64 ((x * 128 ^ i : Nat) : Int)) := by
 simp only [abin,ashift]
 rw [if_neg (by omega)]
 rcases (by omega : i = 0 ∨ i = 1 ∨ i = 2 ∨ i = 3) with rfl | rfl | rfl | rfl
 ·show some (Value.int .i64 (IntKind.i64.wrap ((x : Int) * 2 ^ 0))) = _
  rw [wrap64 ⟨by omega,by omega⟩]; simp
 ·show some (Value.int .i64 (IntKind.i64.wrap ((x : Int) * 2 ^ 7))) = _
  rw [wrap64 ⟨by omega,by omega⟩]; congr 2
 ·show some (Value.int .i64 (IntKind.i64.wrap ((x : Int) * 2 ^ 14))) = _
  rw [wrap64 ⟨by omega,by omega⟩]; congr 2
 ·show some (Value.int .i64 (IntKind.i64.wrap ((x : Int) * 2 ^ 21))) = _
  rw [wrap64 ⟨by omega,by omega⟩]; congr 2
theorem pow7 (i : Nat) : 128 ^ i = 2 ^ (7 * i) := by rw [Nat.pow_mul]
theorem pow_le {i : Nat} (h : i < 4) : 128 ^ i ≤ 2097152 := by
 rcases (by omega : i = 0 ∨ i = 1 ∨ i = 2 ∨ i = 3) with rfl | rfl | rfl | rfl <;> decide
theorem orT7 {n x i : Nat} (hn : n < 128 ^ i) (hx : x < 128) (hi : i < 4) : aint .or .i64 (n : Int) ((x * 128 ^ i : Nat) : Int) = some (.int .i64 ((n + x * 128 ^ i : Nat) : Int)) := by
 have h1 := pow_le hi
 have h2 : x * 128 ^ i ≤ 128 * 2097152 := Nat.mul_le_mul (by omega) h1
 have e : n ||| x * 128 ^ i = n + x * 128 ^ i := by
  have := or_add (n := n) (m := x) (i := 7 * i) (by rw [← pow7]; exact hn)
  rw [pow7]; exact this
 rw [abits_nat (by omega) (by omega) (by rw [e]; omega),e]
theorem next_lt {n x i : Nat} (hn : n < 128 ^ i) (hx : x < 128) : n + x * 128 ^ i < 128 ^ (i + 1) := by
 rw [Nat.pow_succ]
 have : x * 128 ^ i ≤ 127 * 128 ^ i := Nat.mul_le_mul_right _ (by omega)
 omega

theorem spec145 {s : ByteArray} {H : AHeap} (hB : ExtB H) (hs : s.size ≤ 100000000) : CallW E 145 [.string s] H fun r H' => Ext H H' ∧ match takeF s 4 0 0 with
  | .inl (n,k) => r = .tuple #[.int .i64 (n : Int),.int .i64 (k : Int),.nilIface]
  | .inr (kd,p) => ∃ e,r = .tuple #[.int .i64 0,.int .i64 0,e] ∧ Fault H' e 129 p kd := by
 refine wcall145 (by simp) ?_
 simp only [strip,bodyOf,Tryz.f145,getD_body,keepN,bareOp_mk,List.map_cons,List.map_nil,↓reduceIte,Bool.false_eq_true]
 have hg2 := (glob hB).2.2.1
 have hg3 := (glob hB).2.2.2
 have c0 : ∀ v : Value,([v] : List Value)[0]? = some v := fun v => rfl
 simp (disch := first | assumption | simp) only [↓wbD,wbU,↓aop]
 generalize hT0 : takeF s 4 0 0 = T
 refine W_loop (fun f H' => H' = H ∧ f 0 = .string s ∧ ∃ i n : Nat,i ≤ 4 ∧ i ≤ s.size ∧ f 8 = .int .i64 i ∧ f 5 = .int .i64 n ∧ n < 128 ^ i ∧ T = takeF s (4 - i) i n) (fun f _ => match f 8 with | .int _ i => 4 - i.toNat | _ => 0) ?_ ?_
 ·simp (disch := first | assumption | simp) only [wbU,↓reduceIte,Nat.reduceEqDiff,reduceCtorEq]
  exact ⟨0,0,by omega,by omega,rfl,rfl,by simp,hT0.symm⟩
 rintro f H ⟨rfl,f0,i,n,hi,his,f8,f5,hn,hT⟩
 by_cases h4 : (i : Int) < 4
 ·have hk : 4 - i = (4 - (i + 1)) + 1 := by omega
  rw [hk] at hT
  simp only [takeF] at hT
  by_cases he : i = s.size
  ·have he' : decide ((i : Int) = (s.size : Int)) = true := decide_eq_true (by omega)
   rw [if_pos he] at hT
   subst hT
   simp (disch := first | assumption | simp) only [↓wbD,wbU,↓aop,↓reduceIte,Nat.reduceEqDiff,Nat.reduceLT,reduceCtorEq,goInt,f0,f8,h4,decide_true,len_str ty9,he',aev_global,ld_cell ty35 rfl hg2,c0]
   refine spec40.mono ?_
   rintro r H' ⟨hx,hf⟩
   simp (disch := first | assumption | simp) only [↓wbD,wbU,↓aop,↓reduceIte,Nat.reduceEqDiff,Nat.reduceLT]
   exact ⟨hx,_,rfl,hf⟩
  ·have he' : ¬ (i : Int) = (s.size : Int) := by omega
   rw [if_neg he] at hT
   have hb := bt_lt s i
   have hx := idx_str (s := s) (i := i) (by omega)
   have hm : IntKind.i64.wrap (7 * (i : Int)) = ((7 * i : Nat) : Int) := by rw [wrap64 ⟨by omega,by omega⟩]; rfl
   have ha : aint .and .i64 ((bt s i : Nat) : Int) 127 = some (.int .i64 ((bt s i % 128 : Nat) : Int)) := by rw [and127 (.inl rfl) (by omega) (by omega)]; rfl
   have ho := orT7 (x := bt s i % 128) hn (by omega) (by omega)
   have hnl := next_lt (x := bt s i % 128) hn (by omega)
   have hw := wrap_suc (n := i) (by omega)
   by_cases hc : bt s i < 128
   ·have hc' : ¬ (128 : Int) ≤ ((bt s i : Nat) : Int) := by omega
    rw [if_pos hc] at hT
    by_cases hz : bt s i = 0
    ·have hz' : decide (((bt s i : Nat) : Int) = 0) = true := decide_eq_true (by omega)
     by_cases hp : 0 < i
     ·have hp' : (0 : Int) < (i : Int) := by omega
      rw [if_pos ⟨hz,hp⟩] at hT
      subst hT
      simp (disch := first | assumption | simp) only [↓wbD,wbU,↓aop,↓reduceIte,Nat.reduceEqDiff,Nat.reduceLT,reduceCtorEq,goInt,f0,f5,f8,h4,decide_true,decide_false,len_str ty9,he',hx,conv_i64 hb,hm,aint_mul,ha,shl7 (show bt s i % 128 < 128 by omega) (show i < 4 by omega),ho,hc',hz',hp',aev_global,ld_cell ty35 rfl hg3,c0]
      refine spec40.mono ?_
      rintro r H' ⟨hx,hf⟩
      simp (disch := first | assumption | simp) only [↓wbD,wbU,↓aop,↓reduceIte,Nat.reduceEqDiff,Nat.reduceLT]
      exact ⟨hx,_,rfl,hf⟩
     ·have hp' : ¬ (0 : Int) < (i : Int) := by omega
      rw [if_neg (fun h => hp h.2)] at hT
      subst hT
      simp (disch := first | assumption | simp) only [↓wbD,wbU,↓aop,↓reduceIte,Nat.reduceEqDiff,Nat.reduceLT,reduceCtorEq,goInt,f0,f5,f8,h4,decide_true,decide_false,len_str ty9,he',hx,conv_i64 hb,hm,aint_mul,ha,shl7 (show bt s i % 128 < 128 by omega) (show i < 4 by omega),ho,hc',hz',hp',hw]
      exact ⟨Ext.refl _,trivial⟩
    ·have hz' : ¬ ((bt s i : Nat) : Int) = 0 := by omega
     rw [if_neg (fun h => hz h.1)] at hT
     subst hT
     simp (disch := first | assumption | simp) only [↓wbD,wbU,↓aop,↓reduceIte,Nat.reduceEqDiff,Nat.reduceLT,reduceCtorEq,goInt,f0,f5,f8,h4,decide_true,decide_false,len_str ty9,he',hx,conv_i64 hb,hm,aint_mul,ha,shl7 (show bt s i % 128 < 128 by omega) (show i < 4 by omega),ho,hc',hz',hw]
     exact ⟨Ext.refl _,trivial⟩
   ·have hc' : (128 : Int) ≤ ((bt s i : Nat) : Int) := by omega
    rw [if_neg hc] at hT
    simp (disch := first | assumption | simp) only [↓wbD,wbU,↓aop,↓reduceIte,Nat.reduceEqDiff,Nat.reduceLT,reduceCtorEq,goInt,f0,f5,f8,h4,decide_true,decide_false,len_str ty9,he',hx,conv_i64 hb,hm,aint_mul,ha,shl7 (show bt s i % 128 < 128 by omega) (show i < 4 by omega),ho,hc',hw]
    refine ⟨_,rfl,⟨?_,i + 1,_,by omega,by omega,?_,?_,hnl,hT⟩,?_⟩
    ·simp (disch := first | assumption | simp) only [wbU,↓reduceIte,reduceCtorEq,f0]
    ·simp (disch := first | assumption | simp) only [wbU,↓reduceIte]
    ·simp (disch := first | assumption | simp) only [wbU,↓reduceIte,Nat.reduceEqDiff]
    ·simp (disch := first | assumption | simp) only [wbU,↓reduceIte]
     simp; omega
 ·obtain rfl : i = 4 := by omega
  have : takeF s (4 - 4) 4 n = .inr (1,3) := rfl
  rw [this] at hT
  subst hT
  simp (disch := first | assumption | simp) only [↓wbD,wbU,↓aop,↓reduceIte,Nat.reduceLT,f8,h4,decide_false,aev_global,ld_cell ty35 rfl hg3,c0]
  refine spec40.mono ?_
  rintro r H' ⟨hx,hf⟩
  simp (disch := first | assumption | simp) only [↓wbD,wbU,↓aop,↓reduceIte,Nat.reduceEqDiff,Nat.reduceLT]
  exact ⟨hx,_,rfl,hf⟩
end Go.Proofs.YtjkhhdknplelcaaGreatDoor.AbsB
