/-
  A part of a law's proof.
-/
import Derived.Test.YtccimdfmddomaaaDoorAVaqc
namespace Go.Proofs.YtccimdfmddomaaaDoor.AbsA
open Go AbsYtccimdfmddomaaaDoor Abs
set_option maxHeartbeats 4000000
set_option linter.unusedSimpArgs false
set_option linter.unusedVariables false

set_option maxRecDepth 100000
set_option linter.unusedSimpArgs false
set_option linter.unusedVariables false
theorem build71 {H : AHeap} {n : Nat} : abuildSlice E H 70 1 [(0, .int .u8 (n : Int))] = some (.slice (some ⟨H.size, 0, some 1⟩) 1 1, H.alloc (.cells [.int .u8 (n : Int)] true 1)) := by
  simp [dpB, abuildSlice, ty70, ty5, azero, lfill, reps, splice, vcells, ZV.val]
theorem append71 {H : AHeap} {va : Value} {l : List Nat} {n : Nat} (ho : Own H 1 va l.length (u8s l)) (hL : l.length ≤ 1000) :
    ∃ H', abuiltin E (H.alloc (.cells [.int .u8 (n : Int)] true 1)) .append [70, 70] [va, .slice (some ⟨H.size, 0, some 1⟩) 1 1] = some (.slice (some ⟨H.size + 1, 0, none⟩) (l.length + 1) (l.length + 1), H') ∧
      Own H' 1 (.slice (some ⟨H.size + 1, 0, none⟩) (l.length + 1) (l.length + 1)) (l ++ [n]).length (u8s (l ++ [n])) ∧ H'.size = H.size + 2 ∧ ∀ b, b < H.size → b ∉ blkOf va → H'.get b = H.get b := by
  have ho1 : Own (H.alloc (.cells [.int .u8 (n : Int)] true 1)) 1 va l.length (u8s l) := ho.keep (by simp [AHeap.size_alloc]) fun b hb => AHeap.get_alloc_ne _ _ (by have := (ho.sz hb).2; omega)
  obtain ⟨H', h1, h2, h3, h4⟩ := ho1.append (E := E) (t := 70) (e := 5) (zs := [.int .u8 0]) (new := [.int .u8 (n : Int)]) (c := H.size) (ex := some 1) ty70 ty5 rfl rfl rfl (by omega) (by simp) rfl (AHeap.get_alloc_same _ _) rfl rfl (by show (l.length + 1) * 1 ≤ _; omega)
  rw [show (H.alloc (.cells [.int .u8 (n : Int)] true 1)).size = H.size + 1 from AHeap.size_alloc _ _] at h1 h2
  refine ⟨H', h1, ?_, by rw [h3]; simp [AHeap.size_alloc], fun b hb hn => by rw [h4 b (by simp [AHeap.size_alloc]; omega) hn]; exact AHeap.get_alloc_ne _ _ (by omega)⟩
  have : u8s (l ++ [n]) = u8s l ++ [.int .u8 (n : Int)] := by simp [u8s]
  rw [this]
  simpa using h2
def pre (N j : Nat) : List Nat := (List.range j).map fun i => digit N i + 128
theorem pre_len (N j : Nat) : (pre N j).length = j := by simp [pre]
theorem pre_succ (N j : Nat) : pre N (j + 1) = pre N j ++ [digit N j + 128] := by simp [pre, List.range_succ]
theorem enc_pre {N j : Nat} (h : j + 1 = vsize N) : enc N = pre N j ++ [digit N j] := by
  simp only [enc, ← h, List.range_succ, List.map_append, pre, List.map_cons, List.map_nil]
  congr 1
  · apply List.map_congr_left
    intro i hi
    rw [if_pos (by have := List.mem_range.1 hi; omega)]
  · rw [if_neg (by omega)]
theorem div_zero {N j : Nat} (hN : N < 268435456) (hj : j < vsize N) : N / 128 ^ (j + 1) = 0 ↔ j + 1 = vsize N := by
  have hv : (N < 128 ∧ vsize N = 1) ∨ (128 ≤ N ∧ N < 16384 ∧ vsize N = 2) ∨ (16384 ≤ N ∧ N < 2097152 ∧ vsize N = 3) ∨ (2097152 ≤ N ∧ vsize N = 4) := by
    simp only [vsize]
    rcases (by omega : N < 128 ∨ (128 ≤ N ∧ N < 16384) ∨ (16384 ≤ N ∧ N < 2097152) ∨ 2097152 ≤ N) with h | h | h | h
    · left; exact ⟨h, by rw [if_pos h]⟩
    · right; left; exact ⟨h.1, h.2, by rw [if_neg (by omega), if_pos h.2]⟩
    · right; right; left; exact ⟨h.1, h.2, by rw [if_neg (by omega), if_neg (by omega), if_pos h.2]⟩
    · right; right; right; exact ⟨h, by rw [if_neg (by omega), if_neg (by omega), if_neg (by omega)]⟩
  rcases (by omega : j = 0 ∨ j = 1 ∨ j = 2 ∨ j = 3) with rfl | rfl | rfl | rfl <;> simp only [Nat.zero_add, Nat.reduceAdd, Nat.reducePow] <;> omega
theorem spec67 {n : Int} {H : AHeap} : CallW E 67 [.int .i64 n] H fun r H' => Ext H H' ∧
    if n < 0 ∨ 268435455 < n then r = .tuple #[.string emp, .bool false] else r = .tuple #[.string (str (enc n.toNat)), .bool true] := by
  refine wcall67 (by simp) ?_
  simp only [strip, bodyOf, Tryd.f67, getD_body, keepN, bareOp_mk, lessOp_mk, lapp_cons, lapp_nil, List.map_cons, List.map_nil, array_toList, ↓reduceIte, Nat.reduceEqDiff, Bool.false_eq_true]
  by_cases h0 : n < 0
  · simp (disch := first | assumption | simp) only [↓wbD, wbU, ↓aop, ↓reduceIte, Nat.reduceEqDiff, Nat.reduceLT, reduceCtorEq, goInt, pairs, h0, decide_true, true_or]
    exact ⟨Ext.refl _, rfl⟩
  · by_cases h1 : 268435455 < n
    · simp (disch := first | assumption | simp) only [↓wbD, wbU, ↓aop, ↓reduceIte, Nat.reduceEqDiff, Nat.reduceLT, reduceCtorEq, goInt, pairs, h0, h1, decide_true, decide_false, or_true]
      exact ⟨Ext.refl _, rfl⟩
    · obtain ⟨N, rfl⟩ : ∃ N : Nat, n = N := ⟨n.toNat, by omega⟩
      simp only [Int.toNat_natCast] at *
      have hv := vsize_pos N
      have hb : ¬ ((N : Int) < 0 ∨ 268435455 < (N : Int)) := by omega
      simp (disch := first | assumption | simp) only [↓wbD, wbU, ↓aop, ↓reduceIte, Nat.reduceEqDiff, Nat.reduceLT, reduceCtorEq, goInt, pairs, h0, h1, decide_true, decide_false, or_self]
      refine W_loop (fun f H' => Ext H H' ∧ ∃ (j : Nat) (v : Value), j < vsize N ∧ f 0 = .int .i64 ((N / 128 ^ j : Nat) : Int) ∧ f 4 = v ∧ Own H' 1 v (pre N j).length (u8s (pre N j)) ∧ ∀ b ∈ blkOf v, H.size ≤ b) (fun f _ => match f 0 with | .int _ m => m.toNat | _ => 0) ?_ ?_
      · simp (disch := first | assumption | simp) only [↓wbD, wbU, ↓aop, ↓reduceIte, Nat.reduceEqDiff, Nat.reduceLT, reduceCtorEq, goInt, pairs]
        exact ⟨Ext.refl _, 0, _, by omega, by simp, rfl, .inl ⟨rfl, rfl, rfl⟩, by simp [blkOf]⟩
      · rintro f H1 ⟨hx, j, v, hj, f0, f4, ho, hov⟩
        have h0' : (0 : Int) ≤ ((N / 128 ^ j : Nat) : Int) := Int.natCast_nonneg _
        have hle : N / 128 ^ j ≤ N := Nat.div_le_self _ _
        have hr : aint .rem .i64 ((N / 128 ^ j : Nat) : Int) 128 = some (.int .i64 ((digit N j : Nat) : Int)) := by rw [rem_pos h0' (by omega)]; rfl
        have hq : aint .quo .i64 ((N / 128 ^ j : Nat) : Int) 128 = some (.int .i64 ((N / 128 ^ (j + 1) : Nat) : Int)) := by
          rw [quo_pos h0' (by generalize N / 128 ^ j = z at *; omega) (by omega), ← div_next]; rfl
        have hd := digit_lt N j
        have hdz := div_zero (N := N) (j := j) (by omega) hj
        have hpl := pre_len N j
        by_cases hz : ((N / 128 ^ (j + 1) : Nat) : Int) = 0
        · have hje := hdz.1 (by exact_mod_cast hz)
          obtain ⟨H2, ha, ho2, hs2, hk2⟩ := append71 (n := digit N j) ho (by omega)
          rw [← enc_pre hje] at ho2
          have hg2 : H2.get (H1.size + 1) = .cells (u8s (enc N)) true 1 := (ho2.sz (b := H1.size + 1) (by simp [blkOf])).1
          have hel : (pre N j).length + 1 = (enc N).length := by rw [enc_pre hje]; simp
          simp (disch := first | assumption | simp) only [↓wbD, wbU, ↓aop, ↓reduceIte, Nat.reduceEqDiff, Nat.reduceLT, reduceCtorEq, goInt, pairs, f0, f4, hr, hq, hz, decide_true, conv_u8 (show digit N j < 256 by omega), build71, ha, conv_str hg2 hel]
          exact ⟨hx.of_but (S := fun b => b ∈ blkOf v) ⟨by omega, fun b h1 h2 => hk2 b h1 h2⟩ hov, trivial⟩
        · have hje : ¬ j + 1 = vsize N := fun h => hz (by rw [hdz.2 h]; rfl)
          obtain ⟨H2, ha, ho2, hs2, hk2⟩ := append71 (n := digit N j + 128) ho (by omega)
          rw [← pre_succ] at ho2
          have hw : IntKind.i64.wrap (((digit N j : Nat) : Int) + 128) = ((digit N j + 128 : Nat) : Int) := by rw [wrap64 ⟨by omega, by omega⟩]; rfl
          simp (disch := first | assumption | simp) only [↓wbD, wbU, ↓aop, ↓reduceIte, Nat.reduceEqDiff, Nat.reduceLT, reduceCtorEq, goInt, pairs, f0, f4, hr, hq, hz, decide_false, hw, conv_u8 (show digit N j + 128 < 256 by omega), build71, ha]
          refine ⟨_, rfl, ⟨hx.of_but (S := fun b => b ∈ blkOf v) ⟨by omega, fun b h1 h2 => hk2 b h1 h2⟩ hov, j + 1, _, by omega, ?_, rfl, ?_, ?_⟩, ?_⟩
          · simp (disch := first | assumption | simp) only [↓wbD, wbU, ↓aop, ↓reduceIte, Nat.reduceEqDiff, Nat.reduceLT, reduceCtorEq, goInt, pairs]
          · simp (disch := first | assumption | simp) only [↓wbD, wbU, ↓aop, ↓reduceIte, Nat.reduceEqDiff, Nat.reduceLT, reduceCtorEq, goInt, pairs]
            exact ho2
          · simp (disch := first | assumption | simp) only [↓wbD, wbU, ↓aop, ↓reduceIte, Nat.reduceEqDiff, Nat.reduceLT, reduceCtorEq, goInt, pairs]
            intro b hb
            simp [blkOf] at hb; have := hx.size; omega
          · simp (disch := first | assumption | simp) only [↓wbD, wbU, ↓aop, ↓reduceIte, Nat.reduceEqDiff, Nat.reduceLT, reduceCtorEq, goInt, pairs, f0]
            rw [← div_next] at hz ⊢
            simp only [Int.toNat_natCast]
            generalize N / 128 ^ j = z at *
            omega
end Go.Proofs.YtccimdfmddomaaaDoor.AbsA
