/-
  Parts of a law's proof.
-/
import Derived.Test.YtkhcbbpfchgemaaGreatDoorAEnvD
import Derived.Test.YtkhcbbpfchgemaaGreatDoorAMe
namespace Go.Proofs.YtkhcbbpfchgemaaGreatDoor.AbsA
open Go AbsYtkhcbbpfchgemaaGreatDoor Abs
set_option maxRecDepth 100000
set_option maxHeartbeats 4000000
set_option linter.unusedSimpArgs false
set_option linter.unusedVariables false
abbrev fv (r a : Int) (x : Value) : Value := .iface 179 (dptr [.int .i64 r,.int .i64 a,x])
def sent (n : Nat) : Value := .iface 306 (.pointer (some ⟨sblk n,0,none⟩))
theorem sblk_of {n : Nat} (h : 1 ≤ n ∧ n ≤ 7) : ∃ cs,B.get (sblk n) = .cells cs false 0 := by
 have hall : ((List.range 8).all fun n => Nat.beq n 0 || match B.get (sblk n) with | .cells _ false 0 => true | _ => false) = true := by kernel_rfl
 rw [List.all_eq_true] at hall
 have := hall n (List.mem_range.2 (by omega))
 have h0 : Nat.beq n 0 = false := beq_ne (by omega)
 rw [h0,Bool.false_or] at this
 split at this
 ·rename_i cs e; exact ⟨cs,e⟩
 ·cases this
theorem sblk_eq {n j : Nat} (h : 1 ≤ n ∧ n ≤ 7) (h' : 1 ≤ j ∧ j ≤ 7) : Nat.beq (sblk n) (sblk j) = decide (n = j) := by
 have hall : ((List.range 8).all fun n => (List.range 8).all fun j => Nat.beq n 0 || Nat.beq j 0 || (Nat.beq (sblk n) (sblk j) == decide (n = j))) = true := by decide
 rw [List.all_eq_true] at hall
 have h1 := hall n (List.mem_range.2 (by omega))
 rw [List.all_eq_true] at h1
 have h2 := h1 j (List.mem_range.2 (by omega))
 rw [beq_ne (show n ≠ 0 by omega),beq_ne (show j ≠ 0 by omega)] at h2
 simpa using h2
theorem sblk_in {n : Nat} (h : 1 ≤ n ∧ n ≤ 7) : ng ≤ sblk n ∧ sblk n < nb := by
 have hall : ((List.range 8).all fun n => Nat.beq n 0 || (Nat.ble ng (sblk n) && Nat.blt (sblk n) nb)) = true := by decide
 rw [List.all_eq_true] at hall
 have h1 := hall n (List.mem_range.2 (by omega))
 rw [beq_ne (show n ≠ 0 by omega)] at h1
 simpa [Nat.ble_eq,Nat.blt_eq] using h1
theorem frz_sent {n : Nat} (h : 1 ≤ n ∧ n ≤ 7) : frz E.ng E.nb (sent n) = true := by
 have h1 := sblk_in h
 have h2 : E.nb = nb := rfl
 have h3 : E.ng = ng := rfl
 have h4 : ng + 2 ≤ nb := by decide
 rw [sent,frz_iface,frz_ptr,h2,h3]
 simp [h1.2,h4]
inductive ErN : Nat → Value → Nat → Prop
 | new {n : Nat} (r a : Int) (h : 1 ≤ n ∧ n ≤ 7) : ErN 1 (fv r a (sent n)) n
 | deeper {d : Nat} {x : Value} {n : Nat} (r a : Int) (h : ErN d x n) : ErN (d + 1) (fv r a x) n
theorem ErN.val {d n : Nat} {v : Value} (h : ErN d v n) : 1 ≤ d ∧ 1 ≤ n ∧ n ≤ 7 ∧ ∃ r a x,v = fv r a x := by
 induction h with
 | new r a h => exact ⟨by omega,h.1,h.2,r,a,_,rfl⟩
 | deeper r a h ih => exact ⟨by omega,ih.2.1,ih.2.2.1,r,a,_,rfl⟩
theorem ErN.deep {d n : Nat} {v : Value} (h : ErN d v n) : ∀ {k : Nat},d ≤ k → deepSent ec k v = some (sblk n) := by
 induction h with
 | new r a h =>
  intro k hk
  obtain ⟨k,rfl⟩ : ∃ m,k = m + 1 := ⟨k - 1,by omega⟩
  rfl
 | deeper r a h ih =>
  intro k hk
  obtain ⟨k,rfl⟩ : ∃ m,k = m + 1 := ⟨k - 1,by omega⟩
  obtain ⟨_,_,_,r',a',y,rfl⟩ := h.val
  exact ih (by omega)
theorem is_step {σ : AHeap} {v : Value} {d n j : Nat} (h : ErN d v n) (hd : d ≤ 4) (hj : 1 ≤ j ∧ j ≤ 7) {Q : Value → AHeap → Prop} (hq : Q (.bool (decide (n = j))) σ) : CallS E B 95 [v,sent j] σ Q := by
 intro H hH
 obtain ⟨_,n1,n2,r,a,x,rfl⟩ := h.val
 refine w_special (g := isSpec ec ng nb) rfl ?_ ⟨σ,hH,hq⟩
 obtain ⟨c1,g1⟩ := sblk_of ⟨n1,n2⟩
 obtain ⟨c2,g2⟩ := sblk_of hj
 have k1 := (hH.base _ (by rw [g1]; simp)).1.trans g1
 have k2 := (hH.base _ (by rw [g2]; simp)).1.trans g2
 have hds := h.deep hd
 have c : (Nat.ble ng (sblk n) && Nat.blt (sblk n) nb && Nat.ble ng (sblk j) && Nat.blt (sblk j) nb) = true := by
  have h1 := sblk_in ⟨n1,n2⟩
  have h2 := sblk_in hj
  simp only [Bool.and_eq_true,Nat.blt_eq,Nat.ble_eq]
  exact ⟨⟨⟨h1.1,h1.2⟩,h2.1⟩,h2.2⟩
 show isSpec ec ng nb [.iface 179 (.func (.yield 0) ⟨[.int .i64 r,.int .i64 a,x]⟩ ⟨[]⟩),.iface 306 (.pointer (some ⟨sblk j,0,none⟩))] H = _
 simp only [isSpec]
 rw [show Nat.beq 306 ec.tES = true from rfl,if_pos rfl]
 rw [show deepSent ec 4 (.iface 179 (.func (.yield 0) ⟨[.int .i64 r,.int .i64 a,x]⟩ ⟨[]⟩)) = some (sblk n) from hds]
 simp only [sentEq]
 rw [if_pos c,k1,k2,sblk_eq ⟨n1,n2⟩ hj]
 rfl
theorem is_nil {σ : AHeap} {j : Nat} {Q : Value → AHeap → Prop} (hq : Q (.bool false) σ) : CallS E B 95 [.nilIface,sent j] σ Q :=
 fun H hH => w_special (g := isSpec ec ng nb) rfl rfl ⟨σ,hH,hq⟩
theorem specNew {a b : Int} {n : Nat} (hn : 1 ≤ n ∧ n ≤ 7) {σ : AHeap} {Q : Value → AHeap → Prop} (h : Q (fv a b (sent n)) σ) : CallS E B 67 [.int .i64 a,.int .i64 b,sent n] σ Q := by
 have hx := frz_sent hn
 unfold sent at hx h ⊢
 rw [frz_iface] at hx
 refine call67 (by simp) ?_
 simp only [strip,bodyOf,Tryz.f67,getD_body,keepN,bareOp_mk,lessOp_mk,lapp_cons,lapp_nil,List.map_cons,List.map_nil,array_toList,↓reduceIte,Nat.reduceEqDiff,Bool.false_eq_true]
 simp (disch := first | assumption | simp) only [↓sbD,sbU,tyB,Nat.reduceMul,Nat.reduceSub,Int.reduceEq,Int.reduceLT,Int.reduceLE,Int.reduceNe,Nat.reduceBneDiff,Nat.reduceBEq,decide_false,gt_iff_lt,Bool.or_self,Bool.false_eq_true,Nat.mul_one,Nat.one_mul,Nat.zero_mul,↓reduceIte,Nat.reduceEqDiff,Nat.reduceLT,Nat.reduceAdd,Nat.reduceLeDiff,reduceCtorEq,goInt,pairs,isConst,TI.isAgg,splice,boxS,Edp,dpv,Nat.beq_eq,ZV.val,List.any_cons,List.any_nil,Bool.false_and,hx]
 exact downS_here h
def emp : ByteArray := ⟨#[]⟩
theorem B_size : B.size = nb := by kernel_rfl
theorem base_live {b : Nat} (h : deadO (B.get b) = false) : B.get b ≠ .dead := deadO_iff.1 h
theorem base_out {b : Nat} (h : B.get b ≠ .dead) : b < nb := by
 rcases Nat.lt_or_ge b nb with h1 | h1
 ·exact h1
 ·exfalso; apply h
  have hl : (baseList ng 306 S handle).length = nb := by kernel_rfl
  show (heapOf (baseList ng 306 S handle)).get b = .dead
  rw [heapOf_get]
  simp only [List.getD,List.getElem?_eq_none (show (baseList ng 306 S handle).length ≤ b by omega),Option.getD_none]
structure ExtB (H : AHeap) : Prop where
 size : B.size ≤ H.size
 get : ∀ b,B.get b ≠ .dead → H.get b = B.get b
theorem ExtB.trans {H H' : AHeap} (h : ExtB H) (k : Ext H H') : ExtB H' :=
 ⟨Nat.le_trans h.size k.size,fun b hb => by rw [k.get b (Nat.lt_of_lt_of_le (by rw [B_size]; exact base_out hb) h.size),h.get b hb]⟩
theorem ext_holds {H : AHeap} (h : Ext B H) : Holds B .empty H :=
 ⟨fun b hb => ⟨h.get b (by rw [B_size]; exact base_out hb),Nat.lt_of_lt_of_le (by rw [B_size]; exact base_out hb) h.size⟩,fun b hb => by
  exfalso; apply hb; simp [AHeap.get,AHeap.empty,Tr.get,Tr.getF]⟩
theorem glob {H : AHeap} (hB : ExtB H) : H.get 2 = .cells [sent 3] false 1 ∧ H.get 3 = .cells [sent 4] false 1 ∧ H.get 1 = .cells [sent 1] false 1 ∧ H.get 0 = .cells [sent 2] false 1 := by
 rw [hB.get 2 (base_live (by kernel_rfl)),hB.get 3 (base_live (by kernel_rfl)),hB.get 1 (base_live (by kernel_rfl)),hB.get 0 (base_live (by kernel_rfl))]
 exact ⟨by kernel_rfl,by kernel_rfl,by kernel_rfl,by kernel_rfl⟩
theorem frz_sent' (n : Nat) : frz E.ng E.nb (sent n) = true := by
 by_cases h : 1 ≤ n ∧ n ≤ 7
 ·exact frz_sent h
 ·rcases (by omega : n = 0 ∨ 8 ≤ n) with rfl | h8
  ·exact frz_sent (n := 1) ⟨by omega,by omega⟩
  ·have : sblk n = 0 := by unfold sblk; simp only [List.getD]; rw [List.getElem?_eq_none (by simp only [List.length_cons,List.length_nil]; omega)]; rfl
   have h3 : 0 < E.ng := by decide
   rw [sent,frz_iface,frz_ptr,this]
   simp [h3]
end Go.Proofs.YtkhcbbpfchgemaaGreatDoor.AbsA
namespace Go.Proofs.YtkhcbbpfchgemaaGreatDoor.AbsA
open Go AbsYtkhcbbpfchgemaaGreatDoor Abs
set_option maxHeartbeats 4000000
set_option linter.unusedSimpArgs false
set_option linter.unusedVariables false

set_option maxRecDepth 100000
set_option linter.unusedSimpArgs false
set_option linter.unusedVariables false
def vsize (n : Nat) : Nat := if n < 128 then 1 else if n < 16384 then 2 else if n < 2097152 then 3 else 4
def digit (n j : Nat) : Nat := n / 128 ^ j % 128
def enc (n : Nat) : List Nat := (List.range (vsize n)).map fun j => if j + 1 < vsize n then digit n j + 128 else digit n j
def str (l : List Nat) : ByteArray := ⟨(l.map UInt8.ofNat).toArray⟩

set_option maxRecDepth 100000
set_option linter.unusedSimpArgs false
set_option linter.unusedVariables false

set_option maxRecDepth 100000
set_option linter.unusedSimpArgs false
set_option linter.unusedVariables false
def pre (N j : Nat) : List Nat := (List.range j).map fun i => digit N i + 128

set_option maxRecDepth 100000
set_option linter.unusedSimpArgs false
set_option linter.unusedVariables false
def bt (s : ByteArray) (i : Nat) : Nat := match s[i]? with
 | some b => b.toNat
 | none => 0
end Go.Proofs.YtkhcbbpfchgemaaGreatDoor.AbsA
