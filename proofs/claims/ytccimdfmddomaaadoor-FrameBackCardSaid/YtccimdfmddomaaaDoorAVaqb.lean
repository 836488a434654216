/-
  A part of a law's proof.
-/
import Derived.Test.YtccimdfmddomaaaDoorAErqc
namespace Go.Proofs.YtccimdfmddomaaaDoor.AbsA
open Go AbsYtccimdfmddomaaaDoor Abs
set_option maxHeartbeats 4000000
set_option linter.unusedSimpArgs false
set_option linter.unusedVariables false

set_option maxRecDepth 100000
set_option linter.unusedSimpArgs false
set_option linter.unusedVariables false
theorem wrap8 {n : Int} (h : 0 ≤ n ∧ n < 256) : IntKind.u8.wrap n = n := IntWalk.u8_in n (by omega)
def vsize (n : Nat) : Nat := if n < 128 then 1 else if n < 16384 then 2 else if n < 2097152 then 3 else 4
theorem vsize_pos (n : Nat) : 1 ≤ vsize n ∧ vsize n ≤ 4 := by
  simp only [vsize]
  by_cases h1 : n < 128
  · simp [h1]
  · by_cases h2 : n < 16384
    · simp [h1, h2]
    · by_cases h3 : n < 2097152 <;> simp [h1, h2, h3]
theorem vsize_div {n : Nat} (h : 128 ≤ n) (h' : n < 268435456) : vsize (n / 128) + 1 = vsize n := by
  rcases (by omega : n < 16384 ∨ (16384 ≤ n ∧ n < 2097152) ∨ 2097152 ≤ n) with h1 | h1 | h1
  · simp only [vsize]; rw [if_pos (by omega : n / 128 < 128), if_neg (by omega : ¬ n < 128), if_pos h1]
  · simp only [vsize]; rw [if_neg (by omega : ¬ n / 128 < 128), if_pos (by omega : n / 128 < 16384), if_neg (by omega : ¬ n < 128), if_neg (by omega : ¬ n < 16384), if_pos h1.2]
  · simp only [vsize]; rw [if_neg (by omega : ¬ n / 128 < 128), if_neg (by omega : ¬ n / 128 < 16384), if_pos (by omega : n / 128 < 2097152), if_neg (by omega : ¬ n < 128), if_neg (by omega : ¬ n < 16384), if_neg (by omega : ¬ n < 2097152)]
def digit (n j : Nat) : Nat := n / 128 ^ j % 128
def enc (n : Nat) : List Nat := (List.range (vsize n)).map fun j => if j + 1 < vsize n then digit n j + 128 else digit n j
def u8s (l : List Nat) : List Value := l.map fun n : Nat => .int .u8 (n : Int)
def str (l : List Nat) : ByteArray := ⟨(l.map UInt8.ofNat).toArray⟩
theorem str_size (l : List Nat) : (str l).size = l.length := by simp [str, ByteArray.size]
theorem mapM_u8 : ∀ (l : List Nat), (u8s l).mapM byteOfV = some (l.map UInt8.ofNat)
  | [] => rfl
  | n :: l => by
    have h := mapM_u8 l
    simp only [u8s, List.map_cons, List.mapM_cons] at h ⊢
    rw [h]
    simp [byteOfV]
theorem conv_str {H : AHeap} {b n c : Nat} {ex : Option Nat} {l : List Nat} {wr : Bool} (hg : H.get b = .cells (u8s l) wr 1) (hn : n = l.length) : aconvert E H 70 9 (.slice (some ⟨b, 0, ex⟩) n c) = some (.string (str l), H) := by
  have hl : (u8s l).length = l.length := by simp [u8s]
  have ht : takeCells H b 0 n = some (u8s l) := by
    unfold takeCells
    rw [hg]
    simp only [Nat.zero_add]
    rw [if_pos (by omega)]
    simp [List.take_of_length_le, hl, hn]
  simp only [aconvert, dpB, Bool.false_eq_true, if_false, ty70, ty9, ty5, ht, mapM_u8, str, Option.map_some]
theorem conv_u8 {H : AHeap} {n : Nat} (h : n < 256) : aconvert E H 3 5 (.int .i64 (n : Int)) = some (.int .u8 (n : Int), H) := by
  simp only [aconvert, dpB, Bool.false_eq_true, if_false, ty3, ty5]
  rw [wrap8 ⟨by omega, by omega⟩]
theorem conv_i64 {H : AHeap} {n : Nat} (h : n < 256) : aconvert E H 5 3 (.int .u8 (n : Int)) = some (.int .i64 (n : Int), H) := by
  simp only [aconvert, dpB, Bool.false_eq_true, if_false, ty5, ty3]
  rw [wrap64 ⟨by omega, by omega⟩]
theorem spec119 {n : Int} {H : AHeap} : CallW E 119 [.int .i64 n] H fun r H' => r = .int .i64 (if n < 0 ∨ 268435455 < n then 0 else (vsize n.toNat : Int)) ∧ H' = H := by
  refine wcall119 (by simp) ?_
  simp only [strip, bodyOf, Tryd.f119, getD_body, keepN, bareOp_mk, lessOp_mk, lapp_cons, lapp_nil, List.map_cons, List.map_nil, array_toList, ↓reduceIte, Nat.reduceEqDiff, Bool.false_eq_true]
  by_cases h0 : n < 0
  · simp (disch := first | assumption | simp) only [↓wbD, wbU, ↓aop, ↓reduceIte, Nat.reduceEqDiff, Nat.reduceLT, reduceCtorEq, goInt, pairs, h0, decide_true, true_or]
  · by_cases h1 : 268435455 < n
    · simp (disch := first | assumption | simp) only [↓wbD, wbU, ↓aop, ↓reduceIte, Nat.reduceEqDiff, Nat.reduceLT, reduceCtorEq, goInt, pairs, h0, h1, decide_true, decide_false, or_true]
    · simp (disch := first | assumption | simp) only [↓wbD, wbU, ↓aop, ↓reduceIte, Nat.reduceEqDiff, Nat.reduceLT, reduceCtorEq, goInt, pairs, h0, h1, decide_true, decide_false, or_self]
      refine W_loop (fun f H' => H' = H ∧ ∃ m s : Nat, f 0 = .int .i64 m ∧ f 3 = .int .i64 s ∧ m < 268435456 ∧ s + vsize m = vsize n.toNat + 1) (fun f _ => match f 0 with | .int _ m => m.toNat | _ => 0) ?_ ?_
      · simp (disch := first | assumption | simp) only [↓wbD, wbU, ↓aop, ↓reduceIte, Nat.reduceEqDiff, Nat.reduceLT, reduceCtorEq, goInt, pairs]
        exact ⟨n.toNat, 1, by rw [show ((n.toNat : Nat) : Int) = n by omega], rfl, by omega, by omega⟩
      · rintro f H ⟨rfl, m, s, f0, f3, hm, hs⟩
        have vp := vsize_pos m
        have vn := vsize_pos n.toNat
        by_cases hc : (128 : Int) ≤ (m : Int)
        · have hd := vsize_div (n := m) (by omega) hm
          have hq := quo_pos (a := (m : Int)) (b := 128) (by omega) (by omega) (by omega)
          have hw := wrap_suc (n := s) (by omega)
          simp (disch := first | assumption | simp) only [↓wbD, wbU, ↓aop, ↓reduceIte, Nat.reduceEqDiff, Nat.reduceLT, reduceCtorEq, goInt, pairs, f0, f3, hc, decide_true, hq, hw]
          refine ⟨_, rfl, ⟨m / 128, s + 1, ?_, ?_, by omega, by omega⟩, ?_⟩
          · simp (disch := first | assumption | simp) only [↓wbD, wbU, ↓aop, ↓reduceIte, Nat.reduceEqDiff, Nat.reduceLT, reduceCtorEq, goInt, pairs]
            rfl
          · simp (disch := first | assumption | simp) only [↓wbD, wbU, ↓aop, ↓reduceIte, Nat.reduceEqDiff, Nat.reduceLT, reduceCtorEq, goInt, pairs]
          · simp (disch := first | assumption | simp) only [↓wbD, wbU, ↓aop, ↓reduceIte, Nat.reduceEqDiff, Nat.reduceLT, reduceCtorEq, goInt, pairs, f0]
            simp; omega
        · have hv : vsize m = 1 := by unfold vsize; rw [if_pos (by omega)]
          simp (disch := first | assumption | simp) only [↓wbD, wbU, ↓aop, ↓reduceIte, Nat.reduceEqDiff, Nat.reduceLT, reduceCtorEq, goInt, pairs, f0, f3, hc, decide_false]
          have : s = vsize n.toNat := by omega
          rw [this]; exact ⟨rfl, trivial⟩
end Go.Proofs.YtccimdfmddomaaaDoor.AbsA
