/-
  A part of a law's proof.
-/
import Derived.Test.YtccimdfmddomaaaDoorAVaqg
namespace Go.Proofs.YtccimdfmddomaaaDoor.AbsA
open Go AbsYtccimdfmddomaaaDoor Abs
set_option maxHeartbeats 4000000
set_option linter.unusedSimpArgs false
set_option linter.unusedVariables false

set_option maxRecDepth 100000
set_option maxHeartbeats 1000000
set_option linter.unusedSimpArgs false
set_option linter.unusedVariables false
theorem bt_extract {u : ByteArray} {a b j : Nat} (h : a + j < b) (hb : b ≤ u.size) : bt (u.extract a b) j = bt u (a + j) := by
  have h1 : j < (u.extract a b).size := by rw [ByteArray.size_extract]; omega
  have e1 : (u.extract a b)[j]? = some (u.extract a b)[j] := getElem?_pos _ j h1
  have e2 : u[a + j]? = some u[a + j] := getElem?_pos _ (a + j) (by omega)
  unfold bt
  rw [e1, e2]
  simp only
  congr 1
  exact ByteArray.getElem_extract h1
def bytesOf (w : ByteArray) : List Value := w.data.toList.map fun b => .int .u8 b.toNat
theorem conv_bytes {H : AHeap} {w : ByteArray} : aconvert E H 9 70 (.string w) = some (.slice (some ⟨H.size, 0, none⟩) w.size w.size, H.alloc (.cells (bytesOf w) true 1)) := by
  unfold aconvert bytesOf
  rw [ty9, ty70]
  show (match E.ty.get 5 with | some ⟨.int .u8, _, _, _, _⟩ => _ | _ => none) = _
  rw [ty5]
  simp only [dpB, Bool.false_eq_true, if_false]
theorem bytes_get {w : ByteArray} {j : Nat} (h : j < w.size) : (bytesOf w)[j]? = some (.int .u8 ((bt w j : Nat) : Int)) := by
  have e1 : w[j]? = some w[j] := getElem?_pos _ j h
  have hl : j < w.data.toList.length := by rw [Array.length_toList]; exact h
  have e2 : (bytesOf w)[j]? = some (.int .u8 ((w.data.toList[j].toNat : Nat) : Int)) := by
    simp only [bytesOf, List.getElem?_map, List.getElem?_eq_getElem hl, Option.map_some]
  rw [e2]
  unfold bt
  rw [e1]
  rfl
def shapeF (c : Nat) : Nat × Nat × Nat :=
  if 1 ≤ c ∧ c < 128 then (0, c, 1) else if 192 ≤ c ∧ c < 224 then (1, c % 32, 128) else if 224 ≤ c ∧ c < 240 then (2, c % 16, 2048) else if 240 ≤ c ∧ c < 248 then (3, c % 8, 65536) else (0, 0, 1)
theorem spec158 {c : Nat} {H : AHeap} (hc : c < 256) : CallW E 158 [.int .u8 (c : Int)] H fun r H' => r = .tuple #[.int .i64 ((shapeF c).1 : Int), .int .i64 ((shapeF c).2.1 : Int), .int .i64 ((shapeF c).2.2 : Int)] ∧ H' = H := by
  refine wcall158 (by simp) ?_
  simp only [strip, bodyOf, Tryd.f158, getD_body, keepN, bareOp_mk, lessOp_mk, lapp_cons, lapp_nil, List.map_cons, List.map_nil, array_toList, ↓reduceIte, Nat.reduceEqDiff, Bool.false_eq_true]
  rcases (by omega : c = 0 ∨ (1 ≤ c ∧ c < 128) ∨ (128 ≤ c ∧ c < 192) ∨ (192 ≤ c ∧ c < 224) ∨ (224 ≤ c ∧ c < 240) ∨ (240 ≤ c ∧ c < 248) ∨ 248 ≤ c) with h | h | h | h | h | h | h
  · have h1 : ¬ (1 : Int) ≤ (c : Int) := by omega
    have h3 : ¬ (192 : Int) ≤ (c : Int) := by omega
    have h5 : ¬ (224 : Int) ≤ (c : Int) := by omega
    have h7 : ¬ (240 : Int) ≤ (c : Int) := by omega
    simp (disch := first | assumption | simp) only [↓wbD, wbU, ↓aop, ↓reduceIte, Nat.reduceEqDiff, Nat.reduceLT, reduceCtorEq, goInt, pairs, h1, h3, h5, h7, decide_true, decide_false]
    rw [show shapeF c = (0, 0, 1) from by unfold shapeF; rw [if_neg (by omega), if_neg (by omega), if_neg (by omega), if_neg (by omega)]]; exact ⟨rfl, trivial⟩
  · have h1 : (1 : Int) ≤ (c : Int) := by omega
    have h2 : (c : Int) < 128 := by omega
    simp (disch := first | assumption | simp) only [↓wbD, wbU, ↓aop, ↓reduceIte, Nat.reduceEqDiff, Nat.reduceLT, reduceCtorEq, goInt, pairs, h1, h2, decide_true, decide_false, conv_i64 hc]
    rw [show shapeF c = (0, c, 1) from by unfold shapeF; rw [if_pos h]]; exact ⟨rfl, trivial⟩
  · have h1 : (1 : Int) ≤ (c : Int) := by omega
    have h2 : ¬ (c : Int) < 128 := by omega
    have h3 : ¬ (192 : Int) ≤ (c : Int) := by omega
    have h5 : ¬ (224 : Int) ≤ (c : Int) := by omega
    have h7 : ¬ (240 : Int) ≤ (c : Int) := by omega
    simp (disch := first | assumption | simp) only [↓wbD, wbU, ↓aop, ↓reduceIte, Nat.reduceEqDiff, Nat.reduceLT, reduceCtorEq, goInt, pairs, h1, h2, h3, h5, h7, decide_true, decide_false]
    rw [show shapeF c = (0, 0, 1) from by unfold shapeF; rw [if_neg (by omega), if_neg (by omega), if_neg (by omega), if_neg (by omega)]]; exact ⟨rfl, trivial⟩
  · have h1 : (1 : Int) ≤ (c : Int) := by omega
    have h2 : ¬ (c : Int) < 128 := by omega
    have h3 : (192 : Int) ≤ (c : Int) := by omega
    have h4 : (c : Int) < 224 := by omega
    simp (disch := first | assumption | simp) only [↓wbD, wbU, ↓aop, ↓reduceIte, Nat.reduceEqDiff, Nat.reduceLT, reduceCtorEq, goInt, pairs, h1, h2, h3, h4, decide_true, decide_false, and31 hc, conv_i64 (show c % 32 < 256 by omega)]
    rw [show shapeF c = (1, c % 32, 128) from by unfold shapeF; rw [if_neg (by omega), if_pos h]]; exact ⟨rfl, trivial⟩
  · have h1 : (1 : Int) ≤ (c : Int) := by omega
    have h2 : ¬ (c : Int) < 128 := by omega
    have h3 : (192 : Int) ≤ (c : Int) := by omega
    have h4 : ¬ (c : Int) < 224 := by omega
    have h5 : (224 : Int) ≤ (c : Int) := by omega
    have h6 : (c : Int) < 240 := by omega
    simp (disch := first | assumption | simp) only [↓wbD, wbU, ↓aop, ↓reduceIte, Nat.reduceEqDiff, Nat.reduceLT, reduceCtorEq, goInt, pairs, h1, h2, h3, h4, h5, h6, decide_true, decide_false, and15 hc, conv_i64 (show c % 16 < 256 by omega)]
    rw [show shapeF c = (2, c % 16, 2048) from by unfold shapeF; rw [if_neg (by omega), if_neg (by omega), if_pos h]]; exact ⟨rfl, trivial⟩
  · have h1 : (1 : Int) ≤ (c : Int) := by omega
    have h2 : ¬ (c : Int) < 128 := by omega
    have h3 : (192 : Int) ≤ (c : Int) := by omega
    have h4 : ¬ (c : Int) < 224 := by omega
    have h5 : (224 : Int) ≤ (c : Int) := by omega
    have h6 : ¬ (c : Int) < 240 := by omega
    have h7 : (240 : Int) ≤ (c : Int) := by omega
    have h8 : (c : Int) < 248 := by omega
    simp (disch := first | assumption | simp) only [↓wbD, wbU, ↓aop, ↓reduceIte, Nat.reduceEqDiff, Nat.reduceLT, reduceCtorEq, goInt, pairs, h1, h2, h3, h4, h5, h6, h7, h8, decide_true, decide_false, and7 hc, conv_i64 (show c % 8 < 256 by omega)]
    rw [show shapeF c = (3, c % 8, 65536) from by unfold shapeF; rw [if_neg (by omega), if_neg (by omega), if_neg (by omega), if_pos h]]; exact ⟨rfl, trivial⟩
  · have h1 : (1 : Int) ≤ (c : Int) := by omega
    have h2 : ¬ (c : Int) < 128 := by omega
    have h3 : (192 : Int) ≤ (c : Int) := by omega
    have h4 : ¬ (c : Int) < 224 := by omega
    have h5 : (224 : Int) ≤ (c : Int) := by omega
    have h6 : ¬ (c : Int) < 240 := by omega
    have h7 : (240 : Int) ≤ (c : Int) := by omega
    have h8 : ¬ (c : Int) < 248 := by omega
    simp (disch := first | assumption | simp) only [↓wbD, wbU, ↓aop, ↓reduceIte, Nat.reduceEqDiff, Nat.reduceLT, reduceCtorEq, goInt, pairs, h1, h2, h3, h4, h5, h6, h7, h8, decide_true, decide_false]
    rw [show shapeF c = (0, 0, 1) from by unfold shapeF; rw [if_neg (by omega), if_neg (by omega), if_neg (by omega), if_neg (by omega)]]; exact ⟨rfl, trivial⟩
/-- the bytes behind the first one, put together -/
def acc (u : ByteArray) (n : Nat) : Nat → Nat
  | 0 => n
  | k + 1 => acc u n k * 64 + bt u (k + 1) % 64
def cont (u : ByteArray) (k : Nat) : Prop := ∀ j, j < k → 128 ≤ bt u (j + 1) ∧ bt u (j + 1) < 192
instance (u : ByteArray) (k : Nat) : Decidable (cont u k) := inferInstanceAs (Decidable (∀ j, j < k → _))
def bad (n : Nat) : Prop := 1114111 < n ∨ (55296 ≤ n ∧ n ≤ 57343)
instance (n : Nat) : Decidable (bad n) := inferInstanceAs (Decidable (_ ∨ _))
def firstI (u : ByteArray) : Nat :=
  if u.size ≤ (shapeF (bt u 0)).1 then 0
  else if cont u (shapeF (bt u 0)).1 then
    (if acc u (shapeF (bt u 0)).2.1 (shapeF (bt u 0)).1 < (shapeF (bt u 0)).2.2 ∨ bad (acc u (shapeF (bt u 0)).2.1 (shapeF (bt u 0)).1) then 0 else (shapeF (bt u 0)).1 + 1)
  else 0
theorem shapeF_le (c : Nat) (hc : c < 256) : (shapeF c).1 ≤ 3 ∧ (shapeF c).2.1 < 128 ∧ (shapeF c).2.2 ≤ 65536 := by
  unfold shapeF
  split
  · exact ⟨by simp, by simp; omega, by simp⟩
  · split
    · exact ⟨by simp, by simp; omega, by simp⟩
    · split
      · exact ⟨by simp, by simp; omega, by simp⟩
      · split
        · exact ⟨by simp, by simp; omega, by simp⟩
        · exact ⟨by simp, by simp, by simp⟩
theorem acc_lt (u : ByteArray) {n : Nat} (hn : n < 128) : ∀ k, acc u n k < 128 * 64 ^ k
  | 0 => by simpa [acc] using hn
  | k + 1 => by
    have := acc_lt u hn k
    simp only [acc, Nat.pow_succ]
    omega
end Go.Proofs.YtccimdfmddomaaaDoor.AbsA
