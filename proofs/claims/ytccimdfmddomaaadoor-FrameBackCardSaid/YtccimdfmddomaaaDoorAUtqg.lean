/-
  A part of a law's proof.
-/
import Derived.Test.YtccimdfmddomaaaDoorAUtqf
namespace Go.Proofs.YtccimdfmddomaaaDoor.AbsA
open Go AbsYtccimdfmddomaaaDoor Abs
set_option maxHeartbeats 4000000
set_option linter.unusedSimpArgs false
set_option linter.unusedVariables false

set_option maxRecDepth 100000
set_option maxHeartbeats 1000000
set_option linter.unusedSimpArgs false
set_option linter.unusedVariables false
def stepF (s : ByteArray) (a : Nat) : Nat := firstI (s.extract a s.size)
theorem stepF_le (s : ByteArray) {a : Nat} (h : a ≤ s.size) : a + stepF s a ≤ s.size := by
  have := firstI_size (s.extract a s.size)
  rw [ByteArray.size_extract] at this
  unfold stepF
  omega
def walkF (s : ByteArray) (a n : Nat) : Nat × Nat := if h : a < s.size ∧ 0 < stepF s a then walkF s (a + stepF s a) (n + 1) else (n, a)
termination_by s.size - a
decreasing_by omega
theorem walk_next {s : ByteArray} {a n : Nat} (h : a < s.size) (h' : 0 < stepF s a) : walkF s a n = walkF s (a + stepF s a) (n + 1) := by
  rw [walkF, dif_pos ⟨h, h'⟩]
theorem walk_end {s : ByteArray} {a n : Nat} (h : ¬ (a < s.size ∧ 0 < stepF s a)) : walkF s a n = (n, a) := by
  rw [walkF, dif_neg h]
theorem spec155 {s : ByteArray} {H : AHeap} (hs : s.size ≤ 100000) : CallW E 155 [.string s] H fun r H' => r = .tuple #[.int .i64 (((walkF s 0 0).1 : Nat) : Int), .int .i64 (((walkF s 0 0).2 : Nat) : Int)] ∧ Ext H H' := by
  refine wcall155 (by simp) ?_
  simp only [strip, bodyOf, Tryd.f155, getD_body, keepN, bareOp_mk, lessOp_mk, lapp_cons, lapp_nil, List.map_cons, List.map_nil, array_toList, ↓reduceIte, Nat.reduceEqDiff, Bool.false_eq_true]
  simp (disch := first | assumption | simp) only [↓wbD, wbU, ↓aop, ↓reduceIte, Nat.reduceEqDiff, Nat.reduceLT, reduceCtorEq, goInt, pairs]
  generalize hT : walkF s 0 0 = T
  refine W_loop (fun f H' => Ext H H' ∧ f 0 = .string s ∧ ∃ a n : Nat, n ≤ a ∧ a ≤ s.size ∧ f 5 = .int .i64 (a : Int) ∧ f 4 = .int .i64 (n : Int) ∧ walkF s a n = T) (fun f _ => match f 5 with | .int _ a => s.size - a.toNat | _ => 0) ?_ ?_
  · simp (disch := first | assumption | simp) only [↓wbD, wbU, ↓aop, ↓reduceIte, Nat.reduceEqDiff, Nat.reduceLT, reduceCtorEq, goInt, pairs]
    exact ⟨Ext.refl _, 0, 0, by omega, by omega, rfl, rfl, hT⟩
  rintro f H1 ⟨hx, f0, a, n, hna, ha, f5, f4, hw⟩
  by_cases hlt : (a : Int) < (s.size : Int)
  · have hsl := slice_from (E := E) (H := H1) ty9 (s := s) (k := a) ha
    have hsz : (s.extract a s.size).size = s.size - a := by rw [ByteArray.size_extract]; omega
    simp (disch := first | assumption | simp) only [↓wbD, wbU, ↓aop, ↓reduceIte, Nat.reduceEqDiff, Nat.reduceLT, reduceCtorEq, goInt, pairs, f0, f4, f5, hlt, decide_true, len_str ty9, hsl]
    refine (spec157 (by omega) (by omega)).mono ?_
    rintro r H2 ⟨rfl, hx2⟩
    rw [show firstI (s.extract a s.size) = stepF s a from rfl]
    by_cases hz : stepF s a = 0
    · have hzd : decide (((stepF s a : Nat) : Int) = 0) = true := by rw [hz]; rfl
      rw [walk_end (by omega)] at hw
      subst hw
      simp (disch := first | assumption | simp) only [↓wbD, wbU, ↓aop, ↓reduceIte, Nat.reduceEqDiff, Nat.reduceLT, reduceCtorEq, goInt, pairs, f0, f4, f5, hzd]
      exact hx.trans hx2
    · have hzd : decide (((stepF s a : Nat) : Int) = 0) = false := by rw [decide_eq_false_iff_not]; omega
      have hle := stepF_le s ha
      rw [walk_next (by omega) (by omega)] at hw
      have w1 : IntKind.i64.wrap ((a : Int) + ((stepF s a : Nat) : Int)) = ((a + stepF s a : Nat) : Int) := by rw [wrap64 ⟨by omega, by omega⟩]; rfl
      have w2 := wrap_suc (n := n) (by omega)
      simp (disch := first | assumption | simp) only [↓wbD, wbU, ↓aop, ↓reduceIte, Nat.reduceEqDiff, Nat.reduceLT, reduceCtorEq, goInt, pairs, f0, f4, f5, hzd, w1, w2]
      refine ⟨_, rfl, ⟨hx.trans hx2, ?_, a + stepF s a, n + 1, by omega, hle, ?_, ?_, hw⟩, ?_⟩
      · simp (disch := first | assumption | simp) only [↓wbD, wbU, ↓aop, ↓reduceIte, Nat.reduceEqDiff, Nat.reduceLT, reduceCtorEq, goInt, pairs, f0]
      · simp (disch := first | assumption | simp) only [↓wbD, wbU, ↓aop, ↓reduceIte, Nat.reduceEqDiff, Nat.reduceLT, reduceCtorEq, goInt, pairs]
      · simp (disch := first | assumption | simp) only [↓wbD, wbU, ↓aop, ↓reduceIte, Nat.reduceEqDiff, Nat.reduceLT, reduceCtorEq, goInt, pairs]
      · simp (disch := first | assumption | simp) only [↓wbD, wbU, ↓aop, ↓reduceIte, Nat.reduceEqDiff, Nat.reduceLT, reduceCtorEq, goInt, pairs, f5]
        simp; omega
  · rw [walk_end (by omega)] at hw
    subst hw
    simp (disch := first | assumption | simp) only [↓wbD, wbU, ↓aop, ↓reduceIte, Nat.reduceEqDiff, Nat.reduceLT, reduceCtorEq, goInt, pairs, f0, f4, f5, hlt, decide_false, len_str ty9]
    exact hx
/-- whether bytes are a text: the letters, or the kind of the error (from 0) and where -/
def textF (s : ByteArray) : Nat ⊕ (Nat × Nat) := if 65535 < s.size then .inr (3, 65535) else if (walkF s 0 0).2 < s.size then .inr (1, (walkF s 0 0).2) else .inl (walkF s 0 0).1
theorem spec150 {s : ByteArray} {H : AHeap} (hB : Ext B H) (hs : s.size ≤ 100000) : CallW E 150 [.string s] H fun r H' => Ext H H' ∧ match textF s with
    | .inl n => r = .tuple #[.int .i64 (n : Int), .nilIface]
    | .inr (k, p) => ∃ e, r = .tuple #[.int .i64 0, e] ∧ Fault H' e 129 p k := by
  refine wcall150 (by simp) ?_
  simp only [strip, bodyOf, Tryd.f150, getD_body, keepN, bareOp_mk, lessOp_mk, lapp_cons, lapp_nil, List.map_cons, List.map_nil, array_toList, ↓reduceIte, Nat.reduceEqDiff, Bool.false_eq_true]
  have hg1 := (glob hB).2.1
  have c0 : ∀ v : Value, ([v] : List Value)[0]? = some v := fun v => rfl
  by_cases h1 : (65535 : Int) < (s.size : Int)
  · have hT : textF s = .inr (3, 65535) := by unfold textF; rw [if_pos (by omega)]
    rw [hT]
    simp (disch := first | assumption | simp) only [↓wbD, wbU, ↓aop, ↓reduceIte, Nat.reduceEqDiff, Nat.reduceLT, reduceCtorEq, goInt, pairs, len_str ty9, h1, decide_true, aev_global, ld_cell ty28 rfl hg1, c0]
    refine spec56.mono ?_
    rintro r H' ⟨hx, hf⟩
    simp (disch := first | assumption | simp) only [↓wbD, wbU, ↓aop, ↓reduceIte, Nat.reduceEqDiff, Nat.reduceLT, reduceCtorEq, goInt, pairs]
    exact ⟨hx, _, rfl, hf⟩
  · simp (disch := first | assumption | simp) only [↓wbD, wbU, ↓aop, ↓reduceIte, Nat.reduceEqDiff, Nat.reduceLT, reduceCtorEq, goInt, pairs, len_str ty9, h1, decide_false]
    refine (spec155 hs).mono ?_
    rintro r H1 ⟨rfl, hx⟩
    have hg3 := (glob (hB.trans hx)).2.2.2.1
    by_cases h2 : (((walkF s 0 0).2 : Nat) : Int) < (s.size : Int)
    · have hT : textF s = .inr (1, (walkF s 0 0).2) := by unfold textF; rw [if_neg (by omega), if_pos (by omega)]
      rw [hT]
      simp (disch := first | assumption | simp) only [↓wbD, wbU, ↓aop, ↓reduceIte, Nat.reduceEqDiff, Nat.reduceLT, reduceCtorEq, goInt, pairs, tup0, tup1, len_str ty9, h2, decide_true, aev_global, ld_cell ty28 rfl hg3, c0]
      refine spec56.mono ?_
      rintro r H' ⟨hx2, hf⟩
      simp (disch := first | assumption | simp) only [↓wbD, wbU, ↓aop, ↓reduceIte, Nat.reduceEqDiff, Nat.reduceLT, reduceCtorEq, goInt, pairs]
      exact ⟨hx.trans hx2, _, rfl, hf⟩
    · have hT : textF s = .inl (walkF s 0 0).1 := by unfold textF; rw [if_neg (by omega), if_neg (by omega)]
      rw [hT]
      simp (disch := first | assumption | simp) only [↓wbD, wbU, ↓aop, ↓reduceIte, Nat.reduceEqDiff, Nat.reduceLT, reduceCtorEq, goInt, pairs, tup0, tup1, len_str ty9, h2, decide_false]
      exact ⟨hx, trivial⟩
theorem spec125 {s : ByteArray} {H : AHeap} (hB : Ext B H) (hs : s.size ≤ 100000) : CallW E 125 [.string s] H fun r H' => Ext H H' ∧ match textF s with
    | .inl n => r = .nilIface
    | .inr (k, p) => Fault H' r 129 p k := by
  refine wcall125 (by simp) ?_
  simp only [strip, bodyOf, Tryd.f125, getD_body, keepN, bareOp_mk, lessOp_mk, lapp_cons, lapp_nil, List.map_cons, List.map_nil, array_toList, ↓reduceIte, Nat.reduceEqDiff, Bool.false_eq_true]
  simp (disch := first | assumption | simp) only [↓wbD, wbU, ↓aop, ↓reduceIte, Nat.reduceEqDiff, Nat.reduceLT, reduceCtorEq, goInt, pairs]
  refine (spec150 hB hs).mono ?_
  rintro r H1 ⟨hx, hr⟩
  cases hT : textF s with
  | inl n =>
    rw [hT] at hr; subst hr
    simp (disch := first | assumption | simp) only [↓wbD, wbU, ↓aop, ↓reduceIte, Nat.reduceEqDiff, Nat.reduceLT, reduceCtorEq, goInt, pairs, tup0, tup1]
    exact ⟨hx, trivial⟩
  | inr q =>
    obtain ⟨k, p⟩ := q
    rw [hT] at hr
    obtain ⟨e, rfl, hf⟩ := hr
    simp (disch := first | assumption | simp) only [↓wbD, wbU, ↓aop, ↓reduceIte, Nat.reduceEqDiff, Nat.reduceLT, reduceCtorEq, goInt, pairs, tup0, tup1]
    exact ⟨hx, hf⟩
def isText (s : ByteArray) : Bool := match textF s with
  | .inl _ => true
  | .inr _ => false
theorem textF_k {s : ByteArray} {k p : Nat} (h : textF s = .inr (k, p)) : k < 7 := by
  unfold textF at h
  split at h
  · injection h with h; injection h with h1 h2; omega
  · split at h
    · injection h with h; injection h with h1 h2; omega
    · cases h
end Go.Proofs.YtccimdfmddomaaaDoor.AbsA
