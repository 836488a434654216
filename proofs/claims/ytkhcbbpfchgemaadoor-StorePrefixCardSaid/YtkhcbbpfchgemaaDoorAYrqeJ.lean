/-
  Parts of a law's proof.
-/
import Derived.Test.YtkhcbbpfchgemaaDoorAYrqcJ
import Derived.Test.YtkhcbbpfchgemaaDoorAPrqcJ
namespace Go.Proofs.YtkhcbbpfchgemaaDoor.AbsB
open Go AbsYtkhcbbpfchgemaaDoor Abs
set_option maxRecDepth 100000
set_option maxHeartbeats 4000000
set_option linter.unusedSimpArgs false
set_option linter.unusedVariables false
attribute [local irreducible] afterS afterOpS opSK OpsS TrS CodeS condS condW thenS thenQ guardS guardTS outS drawS trSK consS
section
variable {σ : AHeap} {Q : Value → AHeap → Prop} {r p : Nat} {s : ByteArray}
theorem nd {τ : AHeap} {b x : Nat} {o : AObj} (hb : τ.get b = .dead) (hx : τ.get x = o) (ho : o ≠ .dead) : b ≠ x := by rintro rfl; rw [hx] at hb; exact ho hb
end
end Go.Proofs.YtkhcbbpfchgemaaDoor.AbsB
namespace Go.Proofs.YtkhcbbpfchgemaaDoor.AbsB
open Go AbsYtkhcbbpfchgemaaDoor Abs
set_option maxRecDepth 100000
set_option maxHeartbeats 4000000
set_option linter.unusedSimpArgs false
set_option linter.unusedVariables false
def strC1 (s : ByteArray) : List Value := [.string s]
theorem typedL_s {H : AHeap} {d : Nat} {xs : List Value} (h : Typed E H d 22 xs) : ∃ v l,xs = [v] ∧ DL strC1 1 v (l : List ByteArray) ∧ frz E.ng E.nb v = true := by
 cases d with
 | zero => exact h.elim
 | succ d =>
  simp only [Typed,ty22] at h
  rcases h with rfl | ⟨h2,_⟩ | ⟨_,n,j,cs,hj,rfl,hl,hk⟩
  ·exact ⟨_,[],rfl,.inl ⟨rfl,rfl⟩,frz_nils⟩
  ·cases h2
  ·rw [ty9] at hj; injection hj with hj; subst hj
   obtain ⟨l,h3,h4⟩ := chunks (enc := strC1) (fun a => rfl) n cs hl fun k hk' => by obtain ⟨s,hs,_⟩ := typed_str (hk k hk'); exact ⟨s,hs⟩
   exact ⟨_,l,rfl,.inr ⟨0,by rw [h3,← h4]⟩,by rw [frz_dsl]; rfl⟩
attribute [local irreducible] afterS afterOpS opSK OpsS TrS CodeS condS condW thenS thenQ guardS guardTS outS drawS trSK consS
section
variable {σ : AHeap} {Q : Value → AHeap → Prop}
theorem DLst.len {v : Value} {l : List ByteArray} (h : DL strC1 1 v l) (σ : AHeap) : abuiltin E σ .len [22] [v] = some (.int .i64 (l.length : Int),σ) := by
 rcases h with ⟨rfl,rfl⟩ | ⟨m,rfl⟩ <;> rfl
theorem DLst.at {v : Value} {l : List ByteArray} (h : DL strC1 1 v l) {i : Nat} (hi : i < l.length) : aindexAddr E 22 v (.int .i64 (i : Int)) = some (dptr (strC1 l[i] ++ (l.drop (i + 1)).flatMap strC1)) := by
 rcases h with ⟨rfl,rfl⟩ | ⟨m,rfl⟩
 ·simp at hi
 ·rw [ia_dsl hi,drop_flat (enc := strC1) (sz := 1) (fun a => rfl) hi]; rfl
theorem DL.fz {α : Type} {enc : α → List Value} {sz : Nat} {v : Value} {l : List α} (h : DL enc sz v l) (hm : ∀ m,v = dsl m sz l.length (l.flatMap enc) → m ≤ 1) : frz E.ng E.nb v = true := by
 rcases h with ⟨_,rfl⟩ | ⟨m,rfl⟩
 ·exact frz_nils
 ·rw [frz_dsl]; simp [hm m rfl]
end
set_option maxHeartbeats 8000000
section
variable {σ : AHeap} {Q : Value → AHeap → Prop}
theorem and_nat {n m : Nat} (hn : n < 2 ^ 62) (hm : m < 2 ^ 62) : aint .and .i64 (n : Int) (m : Int) = some (.int .i64 ((n &&& m : Nat) : Int)) := by
 have key : ((BitVec.ofInt 64 (n : Int)) &&& (BitVec.ofInt 64 (m : Int))).toNat = n &&& m := by
  rw [BitVec.toNat_and,BitVec.ofInt_natCast,BitVec.ofInt_natCast,BitVec.toNat_ofNat,BitVec.toNat_ofNat]
  rw [Nat.mod_eq_of_lt (by omega),Nat.mod_eq_of_lt (by omega)]
 have hle : n &&& m ≤ n := Nat.and_le_left
 show some (Value.int .i64 (IntKind.i64.wrap ((((BitVec.ofInt 64 (n : Int)) &&& (BitVec.ofInt 64 (m : Int))).toNat : Nat) : Int))) = _
 rw [key,wrap64 ⟨by omega,by omega⟩]
end
section
variable {σ : AHeap} {Q : Value → AHeap → Prop}
end
end Go.Proofs.YtkhcbbpfchgemaaDoor.AbsB
