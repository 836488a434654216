/-
  Parts of a law's proof.
-/
import Derived.Test.YtdiekikcnfjlnaaGreatDoorAEnvD
import Derived.Test.YtdiekikcnfjlnaaGreatDoorAMe
namespace Go.Proofs.YtdiekikcnfjlnaaGreatDoor.AbsA
open Go AbsYtdiekikcnfjlnaaGreatDoor Abs
set_option maxRecDepth 100000
set_option maxHeartbeats 4000000
set_option linter.unusedSimpArgs false
set_option linter.unusedVariables false
abbrev fv (r a : Int) (x : Value) : Value := .iface 72 (dptr [.int .i64 r,.int .i64 a,x])
def sent (n : Nat) : Value := .iface 127 (.pointer (some ⟨sblk n,0,none⟩))
theorem is_nil {σ : AHeap} {j : Nat} {Q : Value → AHeap → Prop} (hq : Q (.bool false) σ) : CallS E B 41 [.nilIface,sent j] σ Q :=
 fun H hH => w_special (g := isSpec ec ng nb) rfl rfl ⟨σ,hH,hq⟩
def emp : ByteArray := ⟨#[]⟩
theorem B_size : B.size = nb := by kernel_rfl
theorem base_live {b : Nat} (h : deadO (B.get b) = false) : B.get b ≠ .dead := deadO_iff.1 h
theorem base_out {b : Nat} (h : B.get b ≠ .dead) : b < nb := by
 rcases Nat.lt_or_ge b nb with h1 | h1
 ·exact h1
 ·exfalso; apply h
  have hl : (baseList ng 127 S handle).length = nb := by kernel_rfl
  show (heapOf (baseList ng 127 S handle)).get b = .dead
  rw [heapOf_get]
  simp only [List.getD,List.getElem?_eq_none (show (baseList ng 127 S handle).length ≤ b by omega),Option.getD_none]
structure ExtB (H : AHeap) : Prop where
 size : B.size ≤ H.size
 get : ∀ b,B.get b ≠ .dead → H.get b = B.get b
theorem ExtB.trans {H H' : AHeap} (h : ExtB H) (k : Ext H H') : ExtB H' :=
 ⟨Nat.le_trans h.size k.size,fun b hb => by rw [k.get b (Nat.lt_of_lt_of_le (by rw [B_size]; exact base_out hb) h.size),h.get b hb]⟩
theorem ext_holds {H : AHeap} (h : Ext B H) : Holds B .empty H :=
 ⟨fun b hb => ⟨h.get b (by rw [B_size]; exact base_out hb),Nat.lt_of_lt_of_le (by rw [B_size]; exact base_out hb) h.size⟩,fun b hb => by
  exfalso; apply hb; simp [AHeap.get,AHeap.empty,Tr.get,Tr.getF]⟩
theorem glob {H : AHeap} (hB : ExtB H) : H.get 2 = .cells [sent 3] false 1 ∧ H.get 3 = .cells [sent 4] false 1 ∧ H.get 0 = .cells [sent 1] false 1 ∧ H.get 1 = .cells [sent 2] false 1 := by
 rw [hB.get 2 (base_live (by kernel_rfl)),hB.get 3 (base_live (by kernel_rfl)),hB.get 0 (base_live (by kernel_rfl)),hB.get 1 (base_live (by kernel_rfl))]
 exact ⟨by kernel_rfl,by kernel_rfl,by kernel_rfl,by kernel_rfl⟩
end Go.Proofs.YtdiekikcnfjlnaaGreatDoor.AbsA
namespace Go.Proofs.YtdiekikcnfjlnaaGreatDoor.AbsA
open Go AbsYtdiekikcnfjlnaaGreatDoor Abs
set_option maxHeartbeats 4000000
set_option linter.unusedSimpArgs false
set_option linter.unusedVariables false

set_option maxRecDepth 100000
set_option linter.unusedSimpArgs false
set_option linter.unusedVariables false
def vsize (n : Nat) : Nat := if n < 128 then 1 else if n < 16384 then 2 else if n < 2097152 then 3 else 4
def digit (n j : Nat) : Nat := n / 128 ^ j % 128
def enc (n : Nat) : List Nat := (List.range (vsize n)).map fun j => if j + 1 < vsize n then digit n j + 128 else digit n j
def str (l : List Nat) : ByteArray := ⟨(l.map UInt8.ofNat).toArray⟩

set_option maxRecDepth 100000
set_option linter.unusedSimpArgs false
set_option linter.unusedVariables false

set_option maxRecDepth 100000
set_option linter.unusedSimpArgs false
set_option linter.unusedVariables false
def pre (N j : Nat) : List Nat := (List.range j).map fun i => digit N i + 128

set_option maxRecDepth 100000
set_option linter.unusedSimpArgs false
set_option linter.unusedVariables false
def bt (s : ByteArray) (i : Nat) : Nat := match s[i]? with
 | some b => b.toNat
 | none => 0
end Go.Proofs.YtdiekikcnfjlnaaGreatDoor.AbsA
