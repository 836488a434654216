/-
  A part of a law's proof.
-/
import Derived.Test.YtccimdfmddomaaaDoorAVaqe
namespace Go.Proofs.YtccimdfmddomaaaDoor.AbsA
open Go AbsYtccimdfmddomaaaDoor Abs
set_option maxHeartbeats 4000000
set_option linter.unusedSimpArgs false
set_option linter.unusedVariables false

set_option maxRecDepth 100000
set_option maxHeartbeats 2000000
set_option linter.unusedSimpArgs false
set_option linter.unusedVariables false
theorem typed_int {H : AHeap} {d : Nat} {xs : List Value} (h : Typed E H d 3 xs) : ∃ n, xs = [.int .i64 n] ∧ (Lit.int .i64 n).wf = true := by
  cases d with
  | zero => exact h.elim
  | succ d => simpa only [Typed, ty3] using h
theorem typed_str {H : AHeap} {d : Nat} {xs : List Value} (h : Typed E H d 9 xs) : ∃ s : ByteArray, xs = [.string s] ∧ s.size ≤ maxLen := by
  cases d with
  | zero => exact h.elim
  | succ d => simpa only [Typed, ty9] using h
theorem not_bool {b : Bool} : aun .not (.bool b) = some (.bool (!b)) := rfl
theorem takeF_kd : ∀ (s : ByteArray) (k i n kd p : Nat), takeF s k i n = .inr (kd, p) → kd ≤ 1
  | s, 0, i, n, kd, p, h => by simp only [takeF] at h; injection h with h; injection h with h1 h2; omega
  | s, k + 1, i, n, kd, p, h => by
    simp only [takeF] at h
    split at h
    · injection h with h; injection h with h1 h2; omega
    · split at h
      · split at h
        · injection h with h; injection h with h1 h2; omega
        · cases h
      · exact takeF_kd s k _ _ _ _ h
theorem tup0 {a b : Value} : (#[a, b] : Array Value)[0]? = some a := rfl
theorem tup1 {a b : Value} : (#[a, b] : Array Value)[1]? = some b := rfl
theorem tri0 {a b c : Value} : (#[a, b, c] : Array Value)[0]? = some a := rfl
theorem tri1 {a b c : Value} : (#[a, b, c] : Array Value)[1]? = some b := rfl
theorem tri2 {a b c : Value} : (#[a, b, c] : Array Value)[2]? = some c := rfl
theorem qua0 {a b c d : Value} : (#[a, b, c, d] : Array Value)[0]? = some a := rfl
theorem qua1 {a b c d : Value} : (#[a, b, c, d] : Array Value)[1]? = some b := rfl
theorem qua2 {a b c d : Value} : (#[a, b, c, d] : Array Value)[2]? = some c := rfl
theorem qua3 {a b c d : Value} : (#[a, b, c, d] : Array Value)[3]? = some d := rfl
theorem enc_len (N : Nat) : (enc N).length = vsize N := by simp [enc]
end Go.Proofs.YtccimdfmddomaaaDoor.AbsA
