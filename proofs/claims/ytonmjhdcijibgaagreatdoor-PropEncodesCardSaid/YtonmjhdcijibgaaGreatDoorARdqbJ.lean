/-
  Parts of a law's proof.
-/
import Derived.Test.YtonmjhdcijibgaaGreatDoorAFwqdJ
namespace Go.Proofs.YtonmjhdcijibgaaGreatDoor.AbsA
open Go AbsYtonmjhdcijibgaaGreatDoor Abs
set_option maxRecDepth 100000
set_option maxHeartbeats 4000000
set_option linter.unusedSimpArgs false
set_option linter.unusedVariables false
/-- reading: what is read and the place behind it, or the error's number and place -/
abbrev Rd (α : Type) := Except (Nat × Nat) (α × Nat)
def rawR (s : ByteArray) (p : Nat) (n : Int) : Rd ByteArray := if n < 0 then .error (4, p) else if s.size < p + n.toNat then .error (1, s.size) else .ok (s.extract p (p + n.toNat), p + n.toNat)
section
variable {σ : AHeap} {r p : Nat} {s : ByteArray} {Q : Value → AHeap → Prop}
theorem slice_from {t : Nat} {a b z q} (ht : E.ty.get t = some ⟨.string, a, b, z, q⟩) {s : ByteArray} {lo : Nat} (h1 : lo ≤ s.size) : aslice E σ t (.string s) (some (.int .i64 (lo : Int))) none none = some (.string (s.extract lo s.size)) := by
  simp [aslice, ht, abound, h1]
end
end Go.Proofs.YtonmjhdcijibgaaGreatDoor.AbsA
namespace Go.Proofs.YtonmjhdcijibgaaGreatDoor.AbsA
open Go AbsYtonmjhdcijibgaaGreatDoor Abs
set_option maxRecDepth 100000
set_option maxHeartbeats 4000000
set_option linter.unusedSimpArgs false
set_option linter.unusedVariables false
/-- the number that bytes tell, the first one the greatest -/
def beF (b : ByteArray) : Nat → Nat
  | 0 => 0
  | i + 1 => beF b i * 256 + bt b i
def numR (s : ByteArray) (p k : Nat) : Rd Nat := match rawR s p k with
  | .ok (b, q) => .ok (beF b b.size, q)
  | .error e => .error e
def varR (s : ByteArray) (p : Nat) : Rd Nat := match takeF (s.extract p s.size) 4 0 0 with
  | .inl (n, k) => .ok (n, p + k)
  | .inr (k, q) => .error (k + 1, p + q)
def binR (s : ByteArray) (p : Nat) : Rd ByteArray := match numR s p 2 with
  | .ok (n, q) => rawR s q n
  | .error e => .error e
def textR (s : ByteArray) (p : Nat) : Rd ByteArray := match binR s p with
  | .ok (b, q) => match textF b with
    | .inl _ => .ok (b, q)
    | .inr (k, j) => .error (k + 1, p + 2 + j)
  | .error e => .error e
section
variable {σ : AHeap} {r p : Nat} {s : ByteArray} {Q : Value → AHeap → Prop}
end
end Go.Proofs.YtonmjhdcijibgaaGreatDoor.AbsA
namespace Go.Proofs.YtonmjhdcijibgaaGreatDoor.AbsA
open Go AbsYtonmjhdcijibgaaGreatDoor Abs
set_option maxRecDepth 100000
set_option maxHeartbeats 4000000
set_option linter.unusedSimpArgs false
set_option linter.unusedVariables false
section
variable {σ : AHeap} {r p : Nat} {s : ByteArray} {Q : Value → AHeap → Prop}
end
end Go.Proofs.YtonmjhdcijibgaaGreatDoor.AbsA
namespace Go.Proofs.YtonmjhdcijibgaaGreatDoor.AbsA
open Go AbsYtonmjhdcijibgaaGreatDoor Abs
set_option maxRecDepth 100000
set_option maxHeartbeats 4000000
set_option linter.unusedSimpArgs false
set_option linter.unusedVariables false
section
variable {σ : AHeap} {r p : Nat} {s : ByteArray} {Q : Value → AHeap → Prop}
def mapN (r : Rd Nat) : Rd (Int × ByteArray) := match r with
  | .ok (n, q) => .ok (((n : Int), emp), q)
  | .error e => .error e
def mapS (r : Rd ByteArray) : Rd (Int × ByteArray) := match r with
  | .ok (v, q) => .ok ((0, v), q)
  | .error e => .error e
/-- a field of a kind is read -/
def rdA (k : Int) (s : ByteArray) (p : Nat) : Rd (Int × ByteArray) := if k = 1 then mapN (numR s p 1) else if k = 2 then mapN (numR s p 2) else if k = 4 then mapN (numR s p 4) else if k = 5 then mapN (varR s p) else if k = 6 then mapS (textR s p) else mapS (binR s p)
end
end Go.Proofs.YtonmjhdcijibgaaGreatDoor.AbsA
namespace Go.Proofs.YtonmjhdcijibgaaGreatDoor.AbsA
open Go AbsYtonmjhdcijibgaaGreatDoor Abs
set_option maxRecDepth 100000
set_option maxHeartbeats 4000000
set_option linter.unusedSimpArgs false
set_option linter.unusedVariables false
theorem ext_tail (x y : ByteArray) : (x ++ y).extract x.size (x ++ y).size = y := by
  obtain ⟨x⟩ := x
  obtain ⟨y⟩ := y
  apply ByteArray.ext
  simp only [ByteArray.data_extract, ByteArray.data_append, ByteArray.size, Array.size_append]
  rw [Array.extract_append]
  simp
theorem ext_mid (x m y : ByteArray) : (x ++ m ++ y).extract x.size (x.size + m.size) = m := by
  obtain ⟨x⟩ := x
  obtain ⟨m⟩ := m
  obtain ⟨y⟩ := y
  apply ByteArray.ext
  simp only [ByteArray.data_extract, ByteArray.data_append, ByteArray.size]
  rw [Array.extract_append, Array.extract_append]
  simp
theorem bt_strL {l : List Nat} {i : Nat} (h : i < l.length) (hl : l[i] < 256) : bt (str l) i = l[i] := by
  have := bt_app (s := emp) h hl
  rw [app_emp'] at this; exact this
end Go.Proofs.YtonmjhdcijibgaaGreatDoor.AbsA
namespace Go.Proofs.YtonmjhdcijibgaaGreatDoor.AbsA
open Go AbsYtonmjhdcijibgaaGreatDoor Abs
set_option maxRecDepth 100000
set_option maxHeartbeats 4000000
set_option linter.unusedSimpArgs false
set_option linter.unusedVariables false
theorem emp_app' (a : ByteArray) : emp ++ a = a := by
  apply ByteArray.ext
  simp [ByteArray.data_append, emp]
end Go.Proofs.YtonmjhdcijibgaaGreatDoor.AbsA
