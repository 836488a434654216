/-
  Parts of a law's proof.
-/
import Derived.Test.YtdiekikcnfjlnaaDoorAErqbJ
namespace Go.Proofs.YtdiekikcnfjlnaaDoor.AbsA
open Go AbsYtdiekikcnfjlnaaDoor Abs
set_option maxHeartbeats 4000000
set_option linter.unusedSimpArgs false
set_option linter.unusedVariables false

set_option maxRecDepth 100000
set_option maxHeartbeats 2000000
set_option linter.unusedSimpArgs false
set_option linter.unusedVariables false
theorem typed_int {H : AHeap} {d : Nat} {xs : List Value} (h : Typed E H d 3 xs) : ∃ n,xs = [.int .i64 n] ∧ (Lit.int .i64 n).wf = true := by
 cases d with
 | zero => exact h.elim
 | succ d => simpa only [Typed,ty3] using h
theorem typed_str {H : AHeap} {d : Nat} {xs : List Value} (h : Typed E H d 9 xs) : ∃ s : ByteArray,xs = [.string s] ∧ s.size ≤ maxLen := by
 cases d with
 | zero => exact h.elim
 | succ d => simpa only [Typed,ty9] using h
theorem not_bool {b : Bool} : aun .not (.bool b) = some (.bool (!b)) := rfl

set_option maxRecDepth 100000
set_option maxHeartbeats 2000000
set_option linter.unusedSimpArgs false
set_option linter.unusedVariables false
theorem bt_app {l : List Nat} {s : ByteArray} {i : Nat} (h : i < l.length) (hl : l[i] < 256) : bt (str l ++ s) i = l[i] := by
 have h1 : i < (str l ++ s).size := by rw [size_app,str_size]; omega
 have h2 : (str l ++ s)[i]? = some (str l ++ s)[i] := getElem?_pos _ i h1
 have h3 : (str l ++ s)[i] = (str l)[i]'(by rw [str_size]; exact h) := ByteArray.getElem_append_left (by rw [str_size]; exact h)
 have h4 : (str l)[i]'(by rw [str_size]; exact h) = UInt8.ofNat l[i] := by
  show (str l).data[i]'_ = _
  simp [str]
 unfold bt
 rw [h2,h3,h4]
 simp only
 rw [UInt8.toNat_ofNat']
 omega

set_option maxRecDepth 100000
set_option maxHeartbeats 1000000
set_option linter.unusedSimpArgs false
set_option linter.unusedVariables false
def bytesOf (w : ByteArray) : List Value := w.data.toList.map fun b => .int .u8 b.toNat
theorem conv_bytes {H : AHeap} {w : ByteArray} : aconvert E H 9 43 (.string w) = some (.slice (some ⟨H.size,0,none⟩) w.size w.size,H.alloc (.cells (bytesOf w) true 1)) := by
 unfold aconvert bytesOf
 rw [ty9,ty43]
 show (match E.ty.get 5 with | some ⟨.int .u8,_,_,_,_⟩ => _ | _ => none) = _
 rw [ty5]
 simp only [dpB,Bool.false_eq_true,if_false]
theorem bytes_get {w : ByteArray} {j : Nat} (h : j < w.size) : (bytesOf w)[j]? = some (.int .u8 ((bt w j : Nat) : Int)) := by
 have e1 : w[j]? = some w[j] := getElem?_pos _ j h
 have hl : j < w.data.toList.length := by rw [Array.length_toList]; exact h
 have e2 : (bytesOf w)[j]? = some (.int .u8 ((w.data.toList[j].toNat : Nat) : Int)) := by
  simp only [bytesOf,List.getElem?_map,List.getElem?_eq_getElem hl,Option.map_some]
 rw [e2]
 unfold bt
 rw [e1]
 rfl
def acc (u : ByteArray) (n : Nat) : Nat → Nat
 | 0 => n
 | k + 1 => acc u n k * 64 + bt u (k + 1) % 64
def cont (u : ByteArray) (k : Nat) : Prop := ∀ j,j < k → 128 ≤ bt u (j + 1) ∧ bt u (j + 1) < 192
instance (u : ByteArray) (k : Nat) : Decidable (cont u k) := inferInstanceAs (Decidable (∀ j,j < k → _))
def bad (n : Nat) : Prop := 1114111 < n ∨ (55296 ≤ n ∧ n ≤ 57343)
instance (n : Nat) : Decidable (bad n) := inferInstanceAs (Decidable (_ ∨ _))

set_option maxRecDepth 100000
set_option maxHeartbeats 1000000
set_option linter.unusedSimpArgs false
set_option linter.unusedVariables false

set_option maxRecDepth 100000
set_option maxHeartbeats 1000000
set_option linter.unusedSimpArgs false
set_option linter.unusedVariables false
def encU (N : Nat) : List Nat :=
 if N < 128 then [N] else if N < 2048 then [192 + N / 64,128 + N % 64] else if N < 65536 then [224 + N / 4096,128 + N / 64 % 64,128 + N % 64] else [240 + N / 262144,128 + N / 4096 % 64,128 + N / 64 % 64,128 + N % 64]
def okN (n : Int) : Prop := 1 ≤ n ∧ n ≤ 1114111 ∧ ¬ (55296 ≤ n ∧ n ≤ 57343)
instance (n : Int) : Decidable (okN n) := inferInstanceAs (Decidable (_ ∧ _))
def bytesF (n : Int) : ByteArray := if okN n then str (encU n.toNat) else emp

set_option maxRecDepth 100000
set_option maxHeartbeats 1000000
set_option linter.unusedSimpArgs false
set_option linter.unusedVariables false
def nacc (u : ByteArray) (x : Int) : Nat → Int
 | 0 => x
 | k + 1 => 64 * nacc u x k + (bt u (k + 1) : Int) - 128
def numF (u : ByteArray) (m : Nat) : Int := if m = 1 then (bt u 0 : Int) else nacc u ((bt u 0 : Int) - (if m = 2 then 192 else if m = 3 then 224 else 240)) (m - 1)
def R (u : ByteArray) (m : Nat) : Prop := m ≤ u.size ∧ bytesF (numF u m) ≠ emp ∧ bytesF (numF u m) = u.extract 0 m
instance (u : ByteArray) (m : Nat) : Decidable (R u m) := inferInstanceAs (Decidable (_ ∧ _))
end Go.Proofs.YtdiekikcnfjlnaaDoor.AbsA
