/-
  Parts of a law's proof.
-/
import Derived.Test.YtccimdfmddomaaaDoorAErqbJ
namespace Go.Proofs.YtccimdfmddomaaaDoor.AbsA
open Go AbsYtccimdfmddomaaaDoor Abs
set_option maxHeartbeats 4000000
set_option linter.unusedSimpArgs false
set_option linter.unusedVariables false

set_option maxRecDepth 100000
set_option maxHeartbeats 2000000
set_option linter.unusedSimpArgs false
set_option linter.unusedVariables false
theorem typed_str {H : AHeap} {d : Nat} {xs : List Value} (h : Typed E H d 9 xs) : ∃ s : ByteArray, xs = [.string s] ∧ s.size ≤ maxLen := by
  cases d with
  | zero => exact h.elim
  | succ d => simpa only [Typed, ty9] using h
theorem not_bool {b : Bool} : aun .not (.bool b) = some (.bool (!b)) := rfl
theorem enc_len (N : Nat) : (enc N).length = vsize N := by simp [enc]
end Go.Proofs.YtccimdfmddomaaaDoor.AbsA
namespace Go.Proofs.YtccimdfmddomaaaDoor.AbsA
open Go AbsYtccimdfmddomaaaDoor Abs
set_option maxHeartbeats 4000000
set_option linter.unusedSimpArgs false
set_option linter.unusedVariables false

set_option maxRecDepth 100000
set_option maxHeartbeats 2000000
set_option linter.unusedSimpArgs false
set_option linter.unusedVariables false
theorem bt_app {l : List Nat} {s : ByteArray} {i : Nat} (h : i < l.length) (hl : l[i] < 256) : bt (str l ++ s) i = l[i] := by
  have h1 : i < (str l ++ s).size := by rw [size_app, str_size]; omega
  have h2 : (str l ++ s)[i]? = some (str l ++ s)[i] := getElem?_pos _ i h1
  have h3 : (str l ++ s)[i] = (str l)[i]'(by rw [str_size]; exact h) := ByteArray.getElem_append_left (by rw [str_size]; exact h)
  have h4 : (str l)[i]'(by rw [str_size]; exact h) = UInt8.ofNat l[i] := by
    show (str l).data[i]'_ = _
    simp [str]
  unfold bt
  rw [h2, h3, h4]
  simp only
  rw [UInt8.toNat_ofNat']
  omega
theorem vsize_cases (N : Nat) (hN : N < 268435456) : (N < 128 ∧ vsize N = 1) ∨ (128 ≤ N ∧ N < 16384 ∧ vsize N = 2) ∨ (16384 ≤ N ∧ N < 2097152 ∧ vsize N = 3) ∨ (2097152 ≤ N ∧ vsize N = 4) := by
  simp only [vsize]
  rcases (by omega : N < 128 ∨ (128 ≤ N ∧ N < 16384) ∨ (16384 ≤ N ∧ N < 2097152) ∨ 2097152 ≤ N) with h | h | h | h
  · left; exact ⟨h, by rw [if_pos h]⟩
  · right; left; exact ⟨h.1, h.2, by rw [if_neg (by omega), if_pos h.2]⟩
  · right; right; left; exact ⟨h.1, h.2, by rw [if_neg (by omega), if_neg (by omega), if_pos h.2]⟩
  · right; right; right; exact ⟨h, by rw [if_neg (by omega), if_neg (by omega), if_neg (by omega)]⟩
theorem bt_enc {N : Nat} {s : ByteArray} {i : Nat} (h : i < vsize N) : bt (str (enc N) ++ s) i = if i + 1 < vsize N then digit N i + 128 else digit N i := by
  have hl : i < (enc N).length := by rw [enc_len]; exact h
  have he : (enc N)[i] = if i + 1 < vsize N then digit N i + 128 else digit N i := by simp [enc]
  rw [bt_app hl, he]
  rw [he]
  have := digit_lt N i
  split <;> omega
theorem take_enc {N : Nat} (hN : N < 268435456) (s : ByteArray) : takeF (str (enc N) ++ s) 4 0 0 = .inl (N, vsize N) := by
  have hsz : (str (enc N) ++ s).size = vsize N + s.size := by rw [size_app, str_size, enc_len]
  have b := fun i (h : i < vsize N) => bt_enc (N := N) (s := s) h
  generalize str (enc N) ++ s = S at hsz b ⊢
  have step : ∀ k i n, i + 1 < vsize N → takeF S (k + 1) i n = takeF S k (i + 1) (n + digit N i * 128 ^ i) := by
    intro k i n h
    have hb := b i (by omega)
    rw [if_pos h] at hb
    have hd := digit_lt N i
    simp only [takeF]
    rw [if_neg (by omega), hb, if_neg (by omega)]
    congr 2
    rw [show (digit N i + 128) % 128 = digit N i by omega]
  have last : ∀ k i n, i + 1 = vsize N → (digit N i = 0 → i = 0) → takeF S (k + 1) i n = .inl (n + digit N i * 128 ^ i, i + 1) := by
    intro k i n h h0
    have hb := b i (by omega)
    rw [if_neg (by omega)] at hb
    have hd := digit_lt N i
    simp only [takeF]
    rw [if_neg (by omega), hb, if_pos (by omega), if_neg (by intro hh; have := h0 hh.1; omega), Nat.mod_eq_of_lt hd]
  have d0 : digit N 0 = N % 128 := by simp [digit]
  have d1 : digit N 1 = N / 128 % 128 := by simp [digit]
  have d2 : digit N 2 = N / 16384 % 128 := by simp [digit]
  have d3 : digit N 3 = N / 2097152 % 128 := by simp [digit]
  rcases vsize_cases N hN with ⟨h1, h2⟩ | ⟨h0, h1, h2⟩ | ⟨h0, h1, h2⟩ | ⟨h1, h2⟩
  · rw [last 3 0 0 (by omega) (fun _ => rfl), h2, d0]
    congr 2; omega
  · rw [step 3 0 0 (by omega), last 2 1 _ (by omega) (by rw [d1]; omega), h2, d0, d1]
    congr 2; omega
  · rw [step 3 0 0 (by omega), step 2 1 _ (by omega), last 1 2 _ (by omega) (by rw [d2]; omega), h2, d0, d1, d2]
    congr 2; omega
  · rw [step 3 0 0 (by omega), step 2 1 _ (by omega), step 1 2 _ (by omega), last 0 3 _ (by omega) (by rw [d3]; omega), h2, d0, d1, d2, d3]
    congr 2; omega
end Go.Proofs.YtccimdfmddomaaaDoor.AbsA
namespace Go.Proofs.YtccimdfmddomaaaDoor.AbsA
open Go AbsYtccimdfmddomaaaDoor Abs
set_option maxHeartbeats 4000000
set_option linter.unusedSimpArgs false
set_option linter.unusedVariables false

set_option maxRecDepth 100000
set_option maxHeartbeats 1000000
set_option linter.unusedSimpArgs false
set_option linter.unusedVariables false
def bytesOf (w : ByteArray) : List Value := w.data.toList.map fun b => .int .u8 b.toNat
theorem conv_bytes {H : AHeap} {w : ByteArray} : aconvert E H 9 70 (.string w) = some (.slice (some ⟨H.size, 0, none⟩) w.size w.size, H.alloc (.cells (bytesOf w) true 1)) := by
  unfold aconvert bytesOf
  rw [ty9, ty70]
  show (match E.ty.get 5 with | some ⟨.int .u8, _, _, _, _⟩ => _ | _ => none) = _
  rw [ty5]
  simp only [dpB, Bool.false_eq_true, if_false]
theorem bytes_get {w : ByteArray} {j : Nat} (h : j < w.size) : (bytesOf w)[j]? = some (.int .u8 ((bt w j : Nat) : Int)) := by
  have e1 : w[j]? = some w[j] := getElem?_pos _ j h
  have hl : j < w.data.toList.length := by rw [Array.length_toList]; exact h
  have e2 : (bytesOf w)[j]? = some (.int .u8 ((w.data.toList[j].toNat : Nat) : Int)) := by
    simp only [bytesOf, List.getElem?_map, List.getElem?_eq_getElem hl, Option.map_some]
  rw [e2]
  unfold bt
  rw [e1]
  rfl
def shapeF (c : Nat) : Nat × Nat × Nat :=
  if 1 ≤ c ∧ c < 128 then (0, c, 1) else if 192 ≤ c ∧ c < 224 then (1, c % 32, 128) else if 224 ≤ c ∧ c < 240 then (2, c % 16, 2048) else if 240 ≤ c ∧ c < 248 then (3, c % 8, 65536) else (0, 0, 1)
/-- the bytes behind the first one, put together -/
def acc (u : ByteArray) (n : Nat) : Nat → Nat
  | 0 => n
  | k + 1 => acc u n k * 64 + bt u (k + 1) % 64
def cont (u : ByteArray) (k : Nat) : Prop := ∀ j, j < k → 128 ≤ bt u (j + 1) ∧ bt u (j + 1) < 192
instance (u : ByteArray) (k : Nat) : Decidable (cont u k) := inferInstanceAs (Decidable (∀ j, j < k → _))
def bad (n : Nat) : Prop := 1114111 < n ∨ (55296 ≤ n ∧ n ≤ 57343)
instance (n : Nat) : Decidable (bad n) := inferInstanceAs (Decidable (_ ∨ _))
def firstI (u : ByteArray) : Nat :=
  if u.size ≤ (shapeF (bt u 0)).1 then 0
  else if cont u (shapeF (bt u 0)).1 then
    (if acc u (shapeF (bt u 0)).2.1 (shapeF (bt u 0)).1 < (shapeF (bt u 0)).2.2 ∨ bad (acc u (shapeF (bt u 0)).2.1 (shapeF (bt u 0)).1) then 0 else (shapeF (bt u 0)).1 + 1)
  else 0
end Go.Proofs.YtccimdfmddomaaaDoor.AbsA
namespace Go.Proofs.YtccimdfmddomaaaDoor.AbsA
open Go AbsYtccimdfmddomaaaDoor Abs
set_option maxHeartbeats 4000000
set_option linter.unusedSimpArgs false
set_option linter.unusedVariables false

set_option maxRecDepth 100000
set_option maxHeartbeats 1000000
set_option linter.unusedSimpArgs false
set_option linter.unusedVariables false
end Go.Proofs.YtccimdfmddomaaaDoor.AbsA
namespace Go.Proofs.YtccimdfmddomaaaDoor.AbsA
open Go AbsYtccimdfmddomaaaDoor Abs
set_option maxHeartbeats 4000000
set_option linter.unusedSimpArgs false
set_option linter.unusedVariables false

set_option maxRecDepth 100000
set_option maxHeartbeats 1000000
set_option linter.unusedSimpArgs false
set_option linter.unusedVariables false
def encU (N : Nat) : List Nat :=
  if N < 128 then [N] else if N < 2048 then [192 + N / 64, 128 + N % 64] else if N < 65536 then [224 + N / 4096, 128 + N / 64 % 64, 128 + N % 64] else [240 + N / 262144, 128 + N / 4096 % 64, 128 + N / 64 % 64, 128 + N % 64]
def okN (n : Int) : Prop := 1 ≤ n ∧ n ≤ 1114111 ∧ ¬ (55296 ≤ n ∧ n ≤ 57343)
instance (n : Int) : Decidable (okN n) := inferInstanceAs (Decidable (_ ∧ _))
def bytesF (n : Int) : ByteArray := if okN n then str (encU n.toNat) else emp
end Go.Proofs.YtccimdfmddomaaaDoor.AbsA
namespace Go.Proofs.YtccimdfmddomaaaDoor.AbsA
open Go AbsYtccimdfmddomaaaDoor Abs
set_option maxHeartbeats 4000000
set_option linter.unusedSimpArgs false
set_option linter.unusedVariables false

set_option maxRecDepth 100000
set_option maxHeartbeats 1000000
set_option linter.unusedSimpArgs false
set_option linter.unusedVariables false
def nacc (u : ByteArray) (x : Int) : Nat → Int
  | 0 => x
  | k + 1 => 64 * nacc u x k + (bt u (k + 1) : Int) - 128
def numF (u : ByteArray) (m : Nat) : Int := if m = 1 then (bt u 0 : Int) else nacc u ((bt u 0 : Int) - (if m = 2 then 192 else if m = 3 then 224 else 240)) (m - 1)
def R (u : ByteArray) (m : Nat) : Prop := m ≤ u.size ∧ bytesF (numF u m) ≠ emp ∧ bytesF (numF u m) = u.extract 0 m
instance (u : ByteArray) (m : Nat) : Decidable (R u m) := inferInstanceAs (Decidable (_ ∧ _))
end Go.Proofs.YtccimdfmddomaaaDoor.AbsA
