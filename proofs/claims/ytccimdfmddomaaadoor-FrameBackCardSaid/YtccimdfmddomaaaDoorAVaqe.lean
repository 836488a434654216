/-
  A part of a law's proof.
-/
import Derived.Test.YtccimdfmddomaaaDoorAVaqd
namespace Go.Proofs.YtccimdfmddomaaaDoor.AbsA
open Go AbsYtccimdfmddomaaaDoor Abs
set_option maxHeartbeats 4000000
set_option linter.unusedSimpArgs false
set_option linter.unusedVariables false

set_option maxRecDepth 100000
set_option linter.unusedSimpArgs false
set_option linter.unusedVariables false
def bt (s : ByteArray) (i : Nat) : Nat := match s[i]? with
  | some b => b.toNat
  | none => 0
theorem bt_lt (s : ByteArray) (i : Nat) : bt s i < 256 := by
  unfold bt; split
  · rename_i b _; exact b.toNat_lt
  · omega
theorem idx_str {s : ByteArray} {i : Nat} (h : i < s.size) : aindex E 9 (.string s) (.int .i64 (i : Int)) = some (.int .u8 ((bt s i : Nat) : Int)) := by
  have hs : s[i]? = some s[i] := getElem?_pos s i h
  simp only [aindex, ty9]
  rw [if_pos (by omega)]
  simp only [Int.toNat_natCast, bt, hs, Option.map_some]
/-- what a number's bytes give: the number and how many bytes, or why not (0: too few; 1: malformed) and where -/
def takeF (s : ByteArray) : Nat → Nat → Nat → (Nat × Nat) ⊕ (Nat × Nat)
  | 0, _, _ => .inr (1, 3)
  | k + 1, i, n => if i = s.size then .inr (0, i) else
    if bt s i < 128 then (if bt s i = 0 ∧ 0 < i then .inr (1, i) else .inl (n + bt s i % 128 * 128 ^ i, i + 1)) else takeF s k (i + 1) (n + bt s i % 128 * 128 ^ i)
theorem shl7 {H : AHeap} {x i : Nat} {t : Nat} {cs : Bool} (hx : x < 128) (hi : i < 4) : abin E H .shl t cs (.int .i64 (x : Int)) (.int .i64 ((7 * i : Nat) : Int)) = some (.int .i64 ((x * 128 ^ i : Nat) : Int)) := by
  simp only [abin, ashift]
  rw [if_neg (by omega)]
  rcases (by omega : i = 0 ∨ i = 1 ∨ i = 2 ∨ i = 3) with rfl | rfl | rfl | rfl
  · show some (Value.int .i64 (IntKind.i64.wrap ((x : Int) * 2 ^ 0))) = _
    rw [wrap64 ⟨by omega, by omega⟩]; simp
  · show some (Value.int .i64 (IntKind.i64.wrap ((x : Int) * 2 ^ 7))) = _
    rw [wrap64 ⟨by omega, by omega⟩]; congr 2
  · show some (Value.int .i64 (IntKind.i64.wrap ((x : Int) * 2 ^ 14))) = _
    rw [wrap64 ⟨by omega, by omega⟩]; congr 2
  · show some (Value.int .i64 (IntKind.i64.wrap ((x : Int) * 2 ^ 21))) = _
    rw [wrap64 ⟨by omega, by omega⟩]; congr 2
theorem pow7 (i : Nat) : 128 ^ i = 2 ^ (7 * i) := by rw [Nat.pow_mul]
theorem pow_le {i : Nat} (h : i < 4) : 128 ^ i ≤ 2097152 := by
  rcases (by omega : i = 0 ∨ i = 1 ∨ i = 2 ∨ i = 3) with rfl | rfl | rfl | rfl <;> decide
theorem orT7 {n x i : Nat} (hn : n < 128 ^ i) (hx : x < 128) (hi : i < 4) : aint .or .i64 (n : Int) ((x * 128 ^ i : Nat) : Int) = some (.int .i64 ((n + x * 128 ^ i : Nat) : Int)) := by
  have h1 := pow_le hi
  have h2 : x * 128 ^ i ≤ 128 * 2097152 := Nat.mul_le_mul (by omega) h1
  have e : n ||| x * 128 ^ i = n + x * 128 ^ i := by
    have := or_add (n := n) (m := x) (i := 7 * i) (by rw [← pow7]; exact hn)
    rw [pow7]; exact this
  rw [abits_nat (by omega) (by omega) (by rw [e]; omega), e]
theorem next_lt {n x i : Nat} (hn : n < 128 ^ i) (hx : x < 128) : n + x * 128 ^ i < 128 ^ (i + 1) := by
  rw [Nat.pow_succ]
  have : x * 128 ^ i ≤ 127 * 128 ^ i := Nat.mul_le_mul_right _ (by omega)
  omega

theorem spec121 {s : ByteArray} {H : AHeap} (hB : Ext B H) (hs : s.size ≤ 10000) : CallW E 121 [.string s] H fun r H' => Ext H H' ∧ match takeF s 4 0 0 with
    | .inl (n, k) => r = .tuple #[.int .i64 (n : Int), .int .i64 (k : Int), .nilIface]
    | .inr (kd, p) => ∃ e, r = .tuple #[.int .i64 0, .int .i64 0, e] ∧ Fault H' e 129 p kd := by
  refine wcall121 (by simp) ?_
  simp only [strip, bodyOf, Tryd.f121, getD_body, keepN, bareOp_mk, lessOp_mk, lapp_cons, lapp_nil, List.map_cons, List.map_nil, array_toList, ↓reduceIte, Nat.reduceEqDiff, Bool.false_eq_true]
  have hg2 := (glob hB).2.2.1
  have hg3 := (glob hB).2.2.2.1
  have c0 : ∀ v : Value, ([v] : List Value)[0]? = some v := fun v => rfl
  simp (disch := first | assumption | simp) only [↓wbD, wbU, ↓aop, ↓reduceIte, Nat.reduceEqDiff, Nat.reduceLT, reduceCtorEq, goInt, pairs]
  generalize hT0 : takeF s 4 0 0 = T
  refine W_loop (fun f H' => H' = H ∧ f 0 = .string s ∧ ∃ i n : Nat, i ≤ 4 ∧ i ≤ s.size ∧ f 8 = .int .i64 i ∧ f 5 = .int .i64 n ∧ n < 128 ^ i ∧ T = takeF s (4 - i) i n) (fun f _ => match f 8 with | .int _ i => 4 - i.toNat | _ => 0) ?_ ?_
  · simp (disch := first | assumption | simp) only [↓wbD, wbU, ↓aop, ↓reduceIte, Nat.reduceEqDiff, Nat.reduceLT, reduceCtorEq, goInt, pairs]
    exact ⟨0, 0, by omega, by omega, rfl, rfl, by simp, hT0.symm⟩
  rintro f H ⟨rfl, f0, i, n, hi, his, f8, f5, hn, hT⟩
  by_cases h4 : (i : Int) < 4
  · have hk : 4 - i = (4 - (i + 1)) + 1 := by omega
    rw [hk] at hT
    simp only [takeF] at hT
    by_cases he : i = s.size
    · have he' : decide ((i : Int) = (s.size : Int)) = true := decide_eq_true (by omega)
      rw [if_pos he] at hT
      subst hT
      simp (disch := first | assumption | simp) only [↓wbD, wbU, ↓aop, ↓reduceIte, Nat.reduceEqDiff, Nat.reduceLT, reduceCtorEq, goInt, pairs, f0, f5, f8, h4, decide_true, len_str ty9, he', aev_global, ld_cell ty28 rfl hg2, c0]
      refine spec56.mono ?_
      rintro r H' ⟨hx, hf⟩
      simp (disch := first | assumption | simp) only [↓wbD, wbU, ↓aop, ↓reduceIte, Nat.reduceEqDiff, Nat.reduceLT, reduceCtorEq, goInt, pairs]
      exact ⟨hx, _, rfl, hf⟩
    · have he' : ¬ (i : Int) = (s.size : Int) := by omega
      rw [if_neg he] at hT
      have hb := bt_lt s i
      have hx := idx_str (s := s) (i := i) (by omega)
      have hm : IntKind.i64.wrap (7 * (i : Int)) = ((7 * i : Nat) : Int) := by rw [wrap64 ⟨by omega, by omega⟩]; rfl
      have ha : aint .and .i64 ((bt s i : Nat) : Int) 127 = some (.int .i64 ((bt s i % 128 : Nat) : Int)) := by rw [and127 (.inl rfl) (by omega) (by omega)]; rfl
      have ho := orT7 (x := bt s i % 128) hn (by omega) (by omega)
      have hnl := next_lt (x := bt s i % 128) hn (by omega)
      have hw := wrap_suc (n := i) (by omega)
      by_cases hc : bt s i < 128
      · have hc' : ¬ (128 : Int) ≤ ((bt s i : Nat) : Int) := by omega
        rw [if_pos hc] at hT
        by_cases hz : bt s i = 0
        · have hz' : decide (((bt s i : Nat) : Int) = 0) = true := decide_eq_true (by omega)
          by_cases hp : 0 < i
          · have hp' : (0 : Int) < (i : Int) := by omega
            rw [if_pos ⟨hz, hp⟩] at hT
            subst hT
            simp (disch := first | assumption | simp) only [↓wbD, wbU, ↓aop, ↓reduceIte, Nat.reduceEqDiff, Nat.reduceLT, reduceCtorEq, goInt, pairs, f0, f5, f8, h4, decide_true, decide_false, len_str ty9, he', hx, conv_i64 hb, hm, aint_mul, ha, shl7 (show bt s i % 128 < 128 by omega) (show i < 4 by omega), ho, hc', hz', hp', aev_global, ld_cell ty28 rfl hg3, c0]
            refine spec56.mono ?_
            rintro r H' ⟨hx, hf⟩
            simp (disch := first | assumption | simp) only [↓wbD, wbU, ↓aop, ↓reduceIte, Nat.reduceEqDiff, Nat.reduceLT, reduceCtorEq, goInt, pairs]
            exact ⟨hx, _, rfl, hf⟩
          · have hp' : ¬ (0 : Int) < (i : Int) := by omega
            rw [if_neg (fun h => hp h.2)] at hT
            subst hT
            simp (disch := first | assumption | simp) only [↓wbD, wbU, ↓aop, ↓reduceIte, Nat.reduceEqDiff, Nat.reduceLT, reduceCtorEq, goInt, pairs, f0, f5, f8, h4, decide_true, decide_false, len_str ty9, he', hx, conv_i64 hb, hm, aint_mul, ha, shl7 (show bt s i % 128 < 128 by omega) (show i < 4 by omega), ho, hc', hz', hp', hw]
            exact ⟨Ext.refl _, trivial⟩
        · have hz' : ¬ ((bt s i : Nat) : Int) = 0 := by omega
          rw [if_neg (fun h => hz h.1)] at hT
          subst hT
          simp (disch := first | assumption | simp) only [↓wbD, wbU, ↓aop, ↓reduceIte, Nat.reduceEqDiff, Nat.reduceLT, reduceCtorEq, goInt, pairs, f0, f5, f8, h4, decide_true, decide_false, len_str ty9, he', hx, conv_i64 hb, hm, aint_mul, ha, shl7 (show bt s i % 128 < 128 by omega) (show i < 4 by omega), ho, hc', hz', hw]
          exact ⟨Ext.refl _, trivial⟩
      · have hc' : (128 : Int) ≤ ((bt s i : Nat) : Int) := by omega
        rw [if_neg hc] at hT
        simp (disch := first | assumption | simp) only [↓wbD, wbU, ↓aop, ↓reduceIte, Nat.reduceEqDiff, Nat.reduceLT, reduceCtorEq, goInt, pairs, f0, f5, f8, h4, decide_true, decide_false, len_str ty9, he', hx, conv_i64 hb, hm, aint_mul, ha, shl7 (show bt s i % 128 < 128 by omega) (show i < 4 by omega), ho, hc', hw]
        refine ⟨_, rfl, ⟨?_, i + 1, _, by omega, by omega, ?_, ?_, hnl, hT⟩, ?_⟩
        · simp (disch := first | assumption | simp) only [↓wbD, wbU, ↓aop, ↓reduceIte, Nat.reduceEqDiff, Nat.reduceLT, reduceCtorEq, goInt, pairs, f0]
        · simp (disch := first | assumption | simp) only [↓wbD, wbU, ↓aop, ↓reduceIte, Nat.reduceEqDiff, Nat.reduceLT, reduceCtorEq, goInt, pairs]
        · simp (disch := first | assumption | simp) only [↓wbD, wbU, ↓aop, ↓reduceIte, Nat.reduceEqDiff, Nat.reduceLT, reduceCtorEq, goInt, pairs]
        · simp (disch := first | assumption | simp) only [↓wbD, wbU, ↓aop, ↓reduceIte, Nat.reduceEqDiff, Nat.reduceLT, reduceCtorEq, goInt, pairs, f8]
          simp; omega
  · obtain rfl : i = 4 := by omega
    have : takeF s (4 - 4) 4 n = .inr (1, 3) := rfl
    rw [this] at hT
    subst hT
    simp (disch := first | assumption | simp) only [↓wbD, wbU, ↓aop, ↓reduceIte, Nat.reduceEqDiff, Nat.reduceLT, reduceCtorEq, goInt, pairs, f8, h4, decide_false, aev_global, ld_cell ty28 rfl hg3, c0]
    refine spec56.mono ?_
    rintro r H' ⟨hx, hf⟩
    simp (disch := first | assumption | simp) only [↓wbD, wbU, ↓aop, ↓reduceIte, Nat.reduceEqDiff, Nat.reduceLT, reduceCtorEq, goInt, pairs]
    exact ⟨hx, _, rfl, hf⟩
theorem oneOf_four {a b c d : Value} : oneOf [a, b, c, d] = .tuple #[a, b, c, d] := rfl
theorem spec71 {s : ByteArray} {H : AHeap} (hs : s.size ≤ 10000) : CallW E 71 [.string s] H fun r H' => H' = H ∧ r = match takeF s 4 0 0 with
    | .inl (n, k) => .tuple #[.int .i64 (n : Int), .int .i64 (k : Int), .int .i64 0, .int .i64 0]
    | .inr (kd, p) => .tuple #[.int .i64 0, .int .i64 0, .int .i64 ((kd : Int) + 1), .int .i64 (p : Int)] := by
  refine wcall71 (by simp) ?_
  simp only [strip, bodyOf, Tryd.f71, getD_body, keepN, bareOp_mk, lessOp_mk, lapp_cons, lapp_nil, List.map_cons, List.map_nil, array_toList, ↓reduceIte, Nat.reduceEqDiff, Bool.false_eq_true]
  simp (disch := first | assumption | simp) only [↓wbD, wbU, ↓aop, ↓reduceIte, Nat.reduceEqDiff, Nat.reduceLT, reduceCtorEq, goInt, pairs, oneOf_four]
  generalize hT0 : takeF s 4 0 0 = T
  refine W_loop (fun f H' => H' = H ∧ f 0 = .string s ∧ ∃ i n : Nat, i ≤ 4 ∧ i ≤ s.size ∧ f 8 = .int .i64 i ∧ f 6 = .int .i64 n ∧ f 7 = .int .i64 ((128 ^ i : Nat) : Int) ∧ n < 128 ^ i ∧ T = takeF s (4 - i) i n) (fun f _ => match f 8 with | .int _ i => 4 - i.toNat | _ => 0) ?_ ?_
  · simp (disch := first | assumption | simp) only [↓wbD, wbU, ↓aop, ↓reduceIte, Nat.reduceEqDiff, Nat.reduceLT, reduceCtorEq, goInt, pairs]
    exact ⟨0, 0, by omega, by omega, rfl, rfl, rfl, by simp, hT0.symm⟩
  rintro f H ⟨rfl, f0, i, n, hi, his, f8, f6, f7, hn, hT⟩
  by_cases h4 : (i : Int) < 4
  · have hk : 4 - i = (4 - (i + 1)) + 1 := by omega
    rw [hk] at hT
    simp only [takeF] at hT
    by_cases he : i = s.size
    · have he' : decide ((i : Int) = (s.size : Int)) = true := decide_eq_true (by omega)
      rw [if_pos he] at hT
      subst hT
      simp (disch := first | assumption | simp) only [↓wbD, wbU, ↓aop, ↓reduceIte, Nat.reduceEqDiff, Nat.reduceLT, reduceCtorEq, goInt, pairs, f0, f6, f7, f8, h4, decide_true, len_str ty9, he', oneOf_four]
      rw [he]; rfl
    · have he' : ¬ (i : Int) = (s.size : Int) := by omega
      rw [if_neg he] at hT
      have hb := bt_lt s i
      have hx := idx_str (s := s) (i := i) (by omega)
      have hr : aint .rem .i64 ((bt s i : Nat) : Int) 128 = some (.int .i64 ((bt s i % 128 : Nat) : Int)) := by rw [rem_pos (by omega) (by omega)]; rfl
      have hp1 := pow_le (i := i) (by omega)
      have hp2 : bt s i % 128 * 128 ^ i ≤ 128 * 2097152 := Nat.mul_le_mul (by omega) hp1
      have hm : IntKind.i64.wrap (((bt s i % 128 : Nat) : Int) * ((128 ^ i : Nat) : Int)) = ((bt s i % 128 * 128 ^ i : Nat) : Int) := by
        rw [← Int.natCast_mul, wrap64 ⟨by omega, by omega⟩]
      have had : IntKind.i64.wrap ((n : Int) + ((bt s i % 128 * 128 ^ i : Nat) : Int)) = ((n + bt s i % 128 * 128 ^ i : Nat) : Int) := by
        rw [← Int.natCast_add, wrap64 ⟨by omega, by omega⟩]
      have hby : IntKind.i64.wrap (((128 ^ i : Nat) : Int) * 128) = ((128 ^ (i + 1) : Nat) : Int) := by
        rw [show (128 : Int) = ((128 : Nat) : Int) from rfl, ← Int.natCast_mul, wrap64 ⟨by omega, by omega⟩, Nat.pow_succ]
      have hnl := next_lt (x := bt s i % 128) hn (by omega)
      have hw := wrap_suc (n := i) (by omega)
      by_cases hc : bt s i < 128
      · have hc' : ((bt s i : Nat) : Int) < 128 := by omega
        rw [if_pos hc] at hT
        by_cases hz : bt s i = 0
        · have hz' : decide (((bt s i : Nat) : Int) = 0) = true := decide_eq_true (by omega)
          by_cases hp : 0 < i
          · have hp' : (0 : Int) < (i : Int) := by omega
            rw [if_pos ⟨hz, hp⟩] at hT
            subst hT
            simp (disch := first | assumption | simp) only [↓wbD, wbU, ↓aop, ↓reduceIte, Nat.reduceEqDiff, Nat.reduceLT, reduceCtorEq, goInt, pairs, f0, f6, f7, f8, h4, decide_true, decide_false, len_str ty9, he', hx, conv_i64 hb, hr, aint_mul, hm, had, hby, hc', hz', hp', oneOf_four]
            first | done | rfl
          · have hp' : ¬ (0 : Int) < (i : Int) := by omega
            rw [if_neg (fun h => hp h.2)] at hT
            subst hT
            simp (disch := first | assumption | simp) only [↓wbD, wbU, ↓aop, ↓reduceIte, Nat.reduceEqDiff, Nat.reduceLT, reduceCtorEq, goInt, pairs, f0, f6, f7, f8, h4, decide_true, decide_false, len_str ty9, he', hx, conv_i64 hb, hr, aint_mul, hm, had, hby, hc', hz', hp', hw, oneOf_four]
            first | done | rfl
        · have hz' : ¬ ((bt s i : Nat) : Int) = 0 := by omega
          rw [if_neg (fun h => hz h.1)] at hT
          subst hT
          simp (disch := first | assumption | simp) only [↓wbD, wbU, ↓aop, ↓reduceIte, Nat.reduceEqDiff, Nat.reduceLT, reduceCtorEq, goInt, pairs, f0, f6, f7, f8, h4, decide_true, decide_false, len_str ty9, he', hx, conv_i64 hb, hr, aint_mul, hm, had, hby, hc', hz', hw, oneOf_four]
          first | done | rfl
      · have hc' : ¬ ((bt s i : Nat) : Int) < 128 := by omega
        rw [if_neg hc] at hT
        simp (disch := first | assumption | simp) only [↓wbD, wbU, ↓aop, ↓reduceIte, Nat.reduceEqDiff, Nat.reduceLT, reduceCtorEq, goInt, pairs, f0, f6, f7, f8, h4, decide_true, decide_false, len_str ty9, he', hx, conv_i64 hb, hr, aint_mul, hm, had, hby, hc', hw]
        refine ⟨_, rfl, ⟨?_, i + 1, _, by omega, by omega, ?_, ?_, ?_, hnl, hT⟩, ?_⟩
        · simp (disch := first | assumption | simp) only [↓wbD, wbU, ↓aop, ↓reduceIte, Nat.reduceEqDiff, Nat.reduceLT, reduceCtorEq, goInt, pairs, f0]
        · simp (disch := first | assumption | simp) only [↓wbD, wbU, ↓aop, ↓reduceIte, Nat.reduceEqDiff, Nat.reduceLT, reduceCtorEq, goInt, pairs]
        · simp (disch := first | assumption | simp) only [↓wbD, wbU, ↓aop, ↓reduceIte, Nat.reduceEqDiff, Nat.reduceLT, reduceCtorEq, goInt, pairs]
        · simp (disch := first | assumption | simp) only [↓wbD, wbU, ↓aop, ↓reduceIte, Nat.reduceEqDiff, Nat.reduceLT, reduceCtorEq, goInt, pairs]
        · simp (disch := first | assumption | simp) only [↓wbD, wbU, ↓aop, ↓reduceIte, Nat.reduceEqDiff, Nat.reduceLT, reduceCtorEq, goInt, pairs, f8]
          simp; omega
  · obtain rfl : i = 4 := by omega
    have : takeF s (4 - 4) 4 n = .inr (1, 3) := rfl
    rw [this] at hT
    subst hT
    simp (disch := first | assumption | simp) only [↓wbD, wbU, ↓aop, ↓reduceIte, Nat.reduceEqDiff, Nat.reduceLT, reduceCtorEq, goInt, pairs, f8, h4, decide_false, oneOf_four]
    first | done | rfl
end Go.Proofs.YtccimdfmddomaaaDoor.AbsA
