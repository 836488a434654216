/-
  Parts of a law's proof.
-/
import Derived.Test.YtkhcbbpfchgemaaGreatDoorAUtqfJ
namespace Go.Proofs.YtkhcbbpfchgemaaGreatDoor.AbsA
open Go AbsYtkhcbbpfchgemaaGreatDoor Abs
set_option maxRecDepth 100000
set_option maxHeartbeats 4000000
set_option linter.unusedSimpArgs false
set_option linter.unusedVariables false
section
variable {σ : AHeap} {w : Nat} {a s : ByteArray} {fp : List Nat} {n : Int} {Q : Value → AHeap → Prop}
end
structure Act where
 k : Int
 n : Int
 s : ByteArray
section
variable {σ : AHeap} {w : Nat} {b : ByteArray} {a : Act} {fp : List Nat} {Q : Value → AHeap → Prop}
end
theorem chunks {α : Type} {enc : α → List Value} {sz : Nat} (hsz : ∀ a,(enc a).length = sz) : ∀ (n : Nat) (cs : List Value),cs.length = n * sz → (∀ k,k < n → ∃ a,(cs.drop (k * sz)).take sz = enc a) → ∃ l : List α,l.length = n ∧ cs = l.flatMap enc
 | 0,cs,hl,_ => ⟨[],rfl,by rw [Nat.zero_mul] at hl; exact List.eq_nil_of_length_eq_zero hl⟩
 | n + 1,cs,hl,h => by
  obtain ⟨a,ha⟩ := h 0 (by omega)
  rw [Nat.zero_mul,List.drop_zero] at ha
  obtain ⟨l,h1,h2⟩ := chunks hsz n (cs.drop sz) (by rw [List.length_drop,hl,Nat.succ_mul]; omega) (fun k hk => by
   obtain ⟨b,hb⟩ := h (k + 1) (by omega)
   refine ⟨b,?_⟩
   rw [← hb,List.drop_drop,Nat.succ_mul,Nat.add_comm])
  exact ⟨a :: l,by simp [h1],by rw [List.flatMap_cons,← ha,← h2,List.take_append_drop]⟩
def DL {α : Type} (enc : α → List Value) (sz : Nat) (v : Value) (l : List α) : Prop := (l = [] ∧ v = .slice none 0 0) ∨ ∃ m,v = dsl m sz l.length (l.flatMap enc)
section
variable {σ : AHeap} {r p : Nat} {s : ByteArray} {Q : Value → AHeap → Prop}
end
section
variable {σ : AHeap} {r p : Nat} {s : ByteArray} {Q : Value → AHeap → Prop}
end
section
variable {σ : AHeap} {r p : Nat} {s : ByteArray} {Q : Value → AHeap → Prop}
end
end Go.Proofs.YtkhcbbpfchgemaaGreatDoor.AbsA
