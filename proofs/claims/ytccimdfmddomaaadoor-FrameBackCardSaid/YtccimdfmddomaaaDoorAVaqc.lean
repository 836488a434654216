/-
  A part of a law's proof.
-/
import Derived.Test.YtccimdfmddomaaaDoorAVaqb
namespace Go.Proofs.YtccimdfmddomaaaDoor.AbsA
open Go AbsYtccimdfmddomaaaDoor Abs
set_option maxHeartbeats 4000000
set_option linter.unusedSimpArgs false
set_option linter.unusedVariables false

set_option maxRecDepth 100000
set_option linter.unusedSimpArgs false
set_option linter.unusedVariables false
theorem u8s_len (l : List Nat) : (u8s l).length = l.length := by simp [u8s]
theorem u8s_get {l : List Nat} {i : Nat} (h : i < l.length) : (u8s l)[i]? = some (.int .u8 ((l[i] : Nat) : Int)) := by simp [u8s, h]
theorem u8s_set (l : List Nat) (i n : Nat) : (u8s l).set i (.int .u8 (n : Int)) = u8s (l.set i n) := by simp [u8s, List.map_set]
theorem make71 {H : AHeap} {s : Nat} (h : s ≤ 1000) : amakeSlice E H 70 (.int .i64 (s : Int)) (.int .i64 (s : Int)) = some (.slice (some ⟨H.size, 0, some 1⟩) s s, H.alloc (.cells (u8s (List.replicate s 0)) true 1)) := by
  have e : reps [.int .u8 0] s = u8s (List.replicate s 0) := by rw [reps_one]; simp [u8s]
  have hz : azero E 5 = some [.int .u8 0] := rfl
  simp only [amakeSlice, ty70, ty5, hz]
  rw [if_pos ⟨by omega, by omega, by omega, by omega, by omega, rfl⟩]
  simp only [Int.toNat_natCast, e]
def digs (s N k : Nat) : List Nat := (List.range s).map fun j => if j < k then digit N j + 128 else 0
theorem digs_len (s N k : Nat) : (digs s N k).length = s := by simp [digs]
theorem digs_set {s N k : Nat} (h : k < s) : (digs s N k).set k (digit N k + 128) = digs s N (k + 1) := by
  apply List.ext_getElem
  · simp [digs]
  · intro i h1 h2
    simp only [digs, List.length_set, List.length_map, List.length_range] at h1
    simp only [digs, List.getElem_set, List.getElem_map, List.getElem_range]
    by_cases hk : k = i
    · subst hk; simp
    · rw [if_neg hk]
      by_cases h3 : i < k
      · rw [if_pos h3, if_pos (by omega)]
      · rw [if_neg h3, if_neg (by omega)]
theorem digs_end {s N : Nat} (hs : s = vsize N) (h : 0 < s) : (digs s N s).set (s - 1) (digit N (s - 1)) = enc N := by
  apply List.ext_getElem
  · simp [digs, enc, hs]
  · intro i h1 h2
    simp only [digs, List.length_set, List.length_map, List.length_range] at h1
    simp only [digs, enc, List.getElem_set, List.getElem_map, List.getElem_range, ← hs]
    by_cases hk : s - 1 = i
    · subst hk; rw [if_pos rfl, if_neg (by omega)]
    · rw [if_neg hk, if_pos h1, if_pos (by omega)]
theorem digs_zero (s N : Nat) : digs s N 0 = List.replicate s 0 := by
  apply List.ext_getElem
  · simp [digs]
  · intro i h1 h2; simp [digs]
theorem digit_lt (N j : Nat) : digit N j < 128 := Nat.mod_lt _ (by omega)
theorem div_next (N k : Nat) : N / 128 ^ k / 128 = N / 128 ^ (k + 1) := by rw [Nat.div_div_eq_div_mul, Nat.pow_succ]
theorem spec66 {n : Int} {H : AHeap} (hB : Ext B H) : CallW E 66 [.int .i64 n] H fun r H' => Ext H H' ∧
    if n < 0 ∨ 268435455 < n then ∃ e, r = .tuple #[.string emp, e] ∧ Fault H' e 129 0 3 else r = .tuple #[.string (str (enc n.toNat)), .nilIface] := by
  refine wcall66 (by simp) ?_
  simp only [strip, bodyOf, Tryd.f66, getD_body, keepN, bareOp_mk, lessOp_mk, lapp_cons, lapp_nil, List.map_cons, List.map_nil, array_toList, ↓reduceIte, Nat.reduceEqDiff, Bool.false_eq_true]
  simp (disch := first | assumption | simp) only [↓wbD, wbU, ↓aop, ↓reduceIte, Nat.reduceEqDiff, Nat.reduceLT, reduceCtorEq, goInt, pairs]
  refine spec119.mono ?_
  rintro r H ⟨rfl, rfl⟩
  by_cases hb : n < 0 ∨ 268435455 < n
  · have hg := (glob hB).2.1
    have c0 : ∀ v : Value, ([v] : List Value)[0]? = some v := fun v => rfl
    simp (disch := first | assumption | simp) only [↓wbD, wbU, ↓aop, ↓reduceIte, Nat.reduceEqDiff, Nat.reduceLT, reduceCtorEq, goInt, pairs, hb, decide_true, aev_global, ld_cell ty28 rfl hg, c0]
    refine spec56.mono ?_
    rintro r H' ⟨hx, hf⟩
    simp (disch := first | assumption | simp) only [↓wbD, wbU, ↓aop, ↓reduceIte, Nat.reduceEqDiff, Nat.reduceLT, reduceCtorEq, goInt, pairs]
    exact ⟨hx, _, rfl, hf⟩
  · obtain ⟨N, rfl⟩ : ∃ N : Nat, n = N := ⟨n.toNat, by omega⟩
    simp only [Int.toNat_natCast] at *
    have hv := vsize_pos N
    have hne : ¬ (vsize N : Int) = 0 := by omega
    obtain ⟨s, hs⟩ : ∃ s, s = vsize N := ⟨_, rfl⟩
    rw [← hs] at hne hv ⊢
    have hlen : ∀ K, abuiltin E K .len [70] [.slice (some ⟨H.size, 0, some 1⟩) s s] = some (goInt s, K) := fun K => by simp [abuiltin, ty70]
    simp (disch := first | assumption | simp) only [↓wbD, wbU, ↓aop, ↓reduceIte, Nat.reduceEqDiff, Nat.reduceLT, reduceCtorEq, goInt, pairs, hb, hne, decide_false, make71 (show s ≤ 1000 by omega), hlen]
    have hx : Ext H (H.alloc (.cells (u8s (List.replicate s 0)) true 1)) := Ext.alloc _ _
    have hg : (H.alloc (.cells (u8s (List.replicate s 0)) true 1)).get H.size = .cells (u8s (digs s N 0)) true 1 := by rw [digs_zero]; exact AHeap.get_alloc_same _ _
    generalize H.alloc (.cells (u8s (List.replicate s 0)) true 1) = H1 at hx hg
    refine W_loop (fun f H' => Ext H H' ∧ f 4 = .int .i64 s ∧ f 5 = .slice (some ⟨H.size, 0, some 1⟩) s s ∧ f 16 = .int .i64 s ∧ ∃ k : Nat, k ≤ s ∧ f 17 = .int .i64 k ∧ f 0 = .int .i64 ((N / 128 ^ k : Nat) : Int) ∧ H'.get H.size = .cells (u8s (digs s N k)) true 1) (fun f _ => match f 17 with | .int _ k => s - k.toNat | _ => 0) ?_ ?_
    · simp (disch := first | assumption | simp) only [↓wbD, wbU, ↓aop, ↓reduceIte, Nat.reduceEqDiff, Nat.reduceLT, reduceCtorEq, goInt, pairs]
      exact ⟨hx, 0, by omega, rfl, by simp, hg⟩
    clear hx hg H1
    rintro f H1 ⟨hx, f4, f5, f16, k, hk, f17, f0, hg⟩
    by_cases hks : (k : Int) < (s : Int)
    · have hw := wrap_suc (n := k) (by omega)
      have hr : aint .rem .i64 ((N / 128 ^ k : Nat) : Int) 128 = some (.int .i64 ((digit N k : Nat) : Int)) := by rw [rem_pos (Int.natCast_nonneg _) (by omega)]; rfl
      have ho : aint .or .i64 ((digit N k : Nat) : Int) 128 = some (.int .i64 ((digit N k + 128 : Nat) : Int)) := by rw [or128 (by omega) (by have := digit_lt N k; omega)]; rfl
      have hq : aint .quo .i64 ((N / 128 ^ k : Nat) : Int) 128 = some (.int .i64 ((N / 128 ^ (k + 1) : Nat) : Int)) := by
        have : N / 128 ^ k ≤ N := Nat.div_le_self _ _
        have h0 : (0 : Int) ≤ ((N / 128 ^ k : Nat) : Int) := Int.natCast_nonneg _
        rw [quo_pos h0 (by generalize N / 128 ^ k = z at *; omega) (by omega), ← div_next]; rfl
      have hst := st_cell (E := E) (t := 5) (o := k) (v := .int .u8 ((digit N k + 128 : Nat) : Int)) ty5 rfl hg (by rw [u8s_len, digs_len]; omega) rfl rfl
      rw [splice_one (by rw [u8s_len, digs_len]; omega), u8s_set, digs_set (by omega)] at hst
      simp (disch := first | assumption | simp) only [↓wbD, wbU, ↓aop, ↓reduceIte, Nat.reduceEqDiff, Nat.reduceLT, reduceCtorEq, goInt, pairs, f0, f5, f16, f17, hks, decide_true, hr, ho, hq, conv_u8 (show digit N k + 128 < 256 by have := digit_lt N k; omega), ia_slice ty70 ty5 (show k < s by omega), Nat.zero_add, Nat.mul_one, hst, hw]
      refine ⟨_, rfl, ⟨⟨?_, fun b hb => ?_⟩, ?_, ?_, ?_, k + 1, by omega, ?_, ?_, AHeap.get_set_same _ _ _⟩, ?_⟩
      · rw [AHeap.size_set]; exact hx.size
      · rw [AHeap.get_set_ne _ _ (by omega)]; exact hx.get b hb
      · simp (disch := first | assumption | simp) only [↓wbD, wbU, ↓aop, ↓reduceIte, Nat.reduceEqDiff, Nat.reduceLT, reduceCtorEq, goInt, pairs, f4]
      · simp (disch := first | assumption | simp) only [↓wbD, wbU, ↓aop, ↓reduceIte, Nat.reduceEqDiff, Nat.reduceLT, reduceCtorEq, goInt, pairs, f5]
      · simp (disch := first | assumption | simp) only [↓wbD, wbU, ↓aop, ↓reduceIte, Nat.reduceEqDiff, Nat.reduceLT, reduceCtorEq, goInt, pairs, f16]
      · simp (disch := first | assumption | simp) only [↓wbD, wbU, ↓aop, ↓reduceIte, Nat.reduceEqDiff, Nat.reduceLT, reduceCtorEq, goInt, pairs]
      · simp (disch := first | assumption | simp) only [↓wbD, wbU, ↓aop, ↓reduceIte, Nat.reduceEqDiff, Nat.reduceLT, reduceCtorEq, goInt, pairs]
      · simp (disch := first | assumption | simp) only [↓wbD, wbU, ↓aop, ↓reduceIte, Nat.reduceEqDiff, Nat.reduceLT, reduceCtorEq, goInt, pairs]
        simp; omega
    · obtain rfl : k = s := by omega
      have hw : IntKind.i64.wrap ((k : Int) - 1) = ((k - 1 : Nat) : Int) := by rw [wrap64 ⟨by omega, by omega⟩]; omega
      have hd : (digs k N k)[k - 1]'(by rw [digs_len]; omega) = digit N (k - 1) + 128 := by simp [digs]; omega
      have hl : (u8s (digs k N k))[k - 1]? = some (.int .u8 ((digit N (k - 1) + 128 : Nat) : Int)) := by rw [u8s_get (by rw [digs_len]; omega), hd]
      have ha : aint .and .u8 ((digit N (k - 1) + 128 : Nat) : Int) 127 = some (.int .u8 ((digit N (k - 1) : Nat) : Int)) := by
        have := digit_lt N (k - 1)
        rw [and127 (.inr rfl) (by omega) (by omega)]
        congr 2; omega
      have hst := st_cell (E := E) (t := 5) (o := k - 1) (v := .int .u8 ((digit N (k - 1) : Nat) : Int)) ty5 rfl hg (by rw [u8s_len, digs_len]; omega) rfl rfl
      rw [splice_one (by rw [u8s_len, digs_len]; omega), u8s_set, digs_end hs (by omega)] at hst
      have hg2 := AHeap.get_set_same H1 H.size (.cells (u8s (enc N)) true 1)
      simp (disch := first | assumption | simp) only [↓wbD, wbU, ↓aop, ↓reduceIte, Nat.reduceEqDiff, Nat.reduceLT, reduceCtorEq, goInt, pairs, f4, f5, f16, f17, hks, decide_false, hw, ia_slice ty70 ty5 (show k - 1 < k by omega), Nat.zero_add, Nat.mul_one, ld_cell ty5 rfl hg, hl, ha, hst, conv_str hg2 (show k = (enc N).length by simp [enc, hs])]
      refine ⟨⟨by rw [AHeap.size_set]; exact hx.size, fun b hb => by rw [AHeap.get_set_ne _ _ (by omega)]; exact hx.get b hb⟩, trivial⟩
end Go.Proofs.YtccimdfmddomaaaDoor.AbsA
