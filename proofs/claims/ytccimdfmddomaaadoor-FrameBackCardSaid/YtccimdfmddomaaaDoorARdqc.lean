/-
  A part of a law's proof.
-/
import Derived.Test.YtccimdfmddomaaaDoorARdqb
namespace Go.Proofs.YtccimdfmddomaaaDoor.AbsA
open Go AbsYtccimdfmddomaaaDoor Abs
set_option maxRecDepth 100000
set_option maxHeartbeats 4000000
set_option linter.unusedSimpArgs false
set_option linter.unusedVariables false
/-- the number that bytes tell, the first one the greatest -/
def beF (b : ByteArray) : Nat → Nat
  | 0 => 0
  | i + 1 => beF b i * 256 + bt b i
def numR (s : ByteArray) (p k : Nat) : Rd Nat := match rawR s p k with
  | .ok (b, q) => .ok (beF b b.size, q)
  | .error e => .error e
def varR (s : ByteArray) (p : Nat) : Rd Nat := match takeF (s.extract p s.size) 4 0 0 with
  | .inl (n, k) => .ok (n, p + k)
  | .inr (k, q) => .error (k + 1, p + q)
def binR (s : ByteArray) (p : Nat) : Rd ByteArray := match numR s p 2 with
  | .ok (n, q) => rawR s q n
  | .error e => .error e
def textR (s : ByteArray) (p : Nat) : Rd ByteArray := match binR s p with
  | .ok (b, q) => match textF b with
    | .inl _ => .ok (b, q)
    | .inr (k, j) => .error (k + 1, p + 2 + j)
  | .error e => .error e
theorem beF_lt (b : ByteArray) : ∀ i, beF b i < 256 ^ i
  | 0 => by simp [beF]
  | i + 1 => by
    have h1 := beF_lt b i
    have h2 := bt_lt b i
    rw [beF, Nat.pow_succ]
    omega
theorem rawR_ok {s v : ByteArray} {p q : Nat} {n : Int} (h : rawR s p n = .ok (v, q)) : 0 ≤ n ∧ v = s.extract p q ∧ q = p + n.toNat ∧ q ≤ s.size ∧ v.size = n.toNat := by
  unfold rawR at h
  split at h
  · cases h
  · split at h
    · cases h
    · injection h with h; injection h with h1 h2
      subst h1; subst h2
      refine ⟨by omega, rfl, rfl, by omega, ?_⟩
      rw [ByteArray.size_extract]; omega
theorem shl8 {σ : AHeap} {N t : Nat} {cs : Bool} (h : N < 16777216) : abin E σ .shl t cs (.int .i64 (N : Int)) (.int .u64 8) = some (.int .i64 ((N * 256 : Nat) : Int)) := by
  simp only [abin, ashift]
  rw [if_neg (by omega)]
  show some (Value.int .i64 (IntKind.i64.wrap ((N : Int) * 2 ^ 8))) = _
  rw [wrap64 ⟨by omega, by omega⟩]; congr 2
theorem or8 {N m : Nat} (h : N < 16777216) (hm : m < 256) : aint .or .i64 ((N * 256 : Nat) : Int) (m : Int) = some (.int .i64 ((N * 256 + m : Nat) : Int)) := by
  have e : N * 256 ||| m = N * 256 + m := by
    have := or_add (n := m) (m := N) (i := 8) (by omega)
    rw [Nat.or_comm, show N * 256 = N * 2 ^ 8 from rfl, this]; omega
  rw [abits_nat (by omega) (by omega) (by rw [e]; omega), e]
theorem conv_by {σ : AHeap} {b : ByteArray} {K : Value → AHeap → Prop} (hq : ∀ d, σ.get d = .dead → K (.slice (some ⟨d, 0, none⟩) b.size b.size) (σ.set d (.cells (bytesOf b) true 1))) : afterOpS E B (some (convS E σ 9 70 (.string b))) σ K := by
  have e : convS E σ 9 70 (.string b) = .any fun d => aconvert E (σ.resize d) 9 70 (.string b) := by
    simp only [convS, conv_bytes, offHeap]
  rw [e]
  intro d hd
  exact ⟨_, _, conv_bytes, hq d (dead_of hd)⟩
section
variable {σ : AHeap} {r p : Nat} {s : ByteArray} {Q : Value → AHeap → Prop}
/-- the loop over bytes -/
theorem specRNum {k : Nat} (hk : k ≤ 4) (hr : IsR σ r s p .nilIface) (hp : p ≤ s.size) (hs : s.size ≤ 1000000000)
    (hok : ∀ n q, numR s p k = .ok (n, q) → ∀ σ', Kept σ [r] σ' [r] → IsR σ' r s q .nilIface → Q (.int .i64 (n : Int)) σ')
    (hbad : ∀ e q, numR s p k = .error (e, q) → ∀ σ', Kept σ [r] σ' [r] → RBad σ' r s p e q → Q (.int .i64 0) σ') : CallS E B 127 [.pointer (some ⟨r, 0, none⟩), .int .i64 (k : Int)] σ Q := by
  refine call127 (by simp) ?_
  simp only [strip, bodyOf, Tryd.f127, getD_body, keepN, bareOp_mk, lessOp_mk, lapp_cons, lapp_nil, List.map_cons, List.map_nil, array_toList, ↓reduceIte, Nat.reduceEqDiff, Bool.false_eq_true]
  simp (disch := first | assumption | simp) only [↓sbD, sbU, tyB, Nat.reduceMul, Nat.reduceSub, Int.reduceEq, Int.reduceLT, Int.reduceLE, Int.reduceNe, Nat.reduceBneDiff, Nat.reduceBEq, decide_false, gt_iff_lt, Bool.or_self, Bool.false_eq_true, Nat.mul_one, Nat.one_mul, Nat.zero_mul, ↓reduceIte, Nat.reduceEqDiff, Nat.reduceLT, Nat.reduceAdd, Nat.reduceLeDiff, reduceCtorEq, goInt, pairs, isConst, TI.isAgg, splice, boxS, Edp, dpv, Nat.beq_eq, ZV.val, List.any_cons, List.any_nil]
  refine specRRaw hr hp hs (fun b q hb σ1 k1 i1 => ?_) fun e q hb σ1 k1 i1 => ?_
  · obtain ⟨_, _, _, _, hbz⟩ := rawR_ok hb
    rw [Int.toNat_natCast] at hbz
    simp (disch := first | assumption | simp) only [↓sbD, sbU, tyB, Nat.reduceMul, Nat.reduceSub, Int.reduceEq, Int.reduceLT, Int.reduceLE, Int.reduceNe, Nat.reduceBneDiff, Nat.reduceBEq, decide_false, gt_iff_lt, Bool.or_self, Bool.false_eq_true, Nat.mul_one, Nat.one_mul, Nat.zero_mul, ↓reduceIte, Nat.reduceEqDiff, Nat.reduceLT, Nat.reduceAdd, Nat.reduceLeDiff, reduceCtorEq, goInt, pairs, isConst, TI.isAgg, splice, boxS, Edp, dpv, Nat.beq_eq, ZV.val, List.any_cons, List.any_nil]
    refine conv_by fun d hd => ?_
    simp (disch := first | assumption | simp) only [↓sbD, sbU, tyB, Nat.reduceMul, Nat.reduceSub, Int.reduceEq, Int.reduceLT, Int.reduceLE, Int.reduceNe, Nat.reduceBneDiff, Nat.reduceBEq, decide_false, gt_iff_lt, Bool.or_self, Bool.false_eq_true, Nat.mul_one, Nat.one_mul, Nat.zero_mul, ↓reduceIte, Nat.reduceEqDiff, Nat.reduceLT, Nat.reduceAdd, Nat.reduceLeDiff, reduceCtorEq, goInt, pairs, isConst, TI.isAgg, splice, boxS, Edp, dpv, Nat.beq_eq, ZV.val, List.any_cons, List.any_nil]
    have hg : (σ1.set d (.cells (bytesOf b) true 1)).get d = .cells (bytesOf b) true 1 := AHeap.get_set_same _ _ _
    refine S_loop (fun m f σ' => σ' = σ1.set d (.cells (bytesOf b) true 1) ∧ ∃ i : Nat, i ≤ b.size ∧ m + i = b.size ∧ f 13 = .int .i64 i ∧ f 5 = .int .i64 (beF b i : Int)) b.size (Le.refl _) ⟨rfl, 0, by omega, rfl, by simp (disch := first | assumption | simp) only [↓sbD, sbU, tyB, Nat.reduceMul, Nat.reduceSub, Int.reduceEq, Int.reduceLT, Int.reduceLE, Int.reduceNe, Nat.reduceBneDiff, Nat.reduceBEq, decide_false, gt_iff_lt, Bool.or_self, Bool.false_eq_true, Nat.mul_one, Nat.one_mul, Nat.zero_mul, ↓reduceIte, Nat.reduceEqDiff, Nat.reduceLT, Nat.reduceAdd, Nat.reduceLeDiff, reduceCtorEq, goInt, pairs, isConst, TI.isAgg, splice, boxS, Edp, dpv, Nat.beq_eq, ZV.val, List.any_cons, List.any_nil]; rfl, by simp (disch := first | assumption | simp) only [↓sbD, sbU, tyB, Nat.reduceMul, Nat.reduceSub, Int.reduceEq, Int.reduceLT, Int.reduceLE, Int.reduceNe, Nat.reduceBneDiff, Nat.reduceBEq, decide_false, gt_iff_lt, Bool.or_self, Bool.false_eq_true, Nat.mul_one, Nat.one_mul, Nat.zero_mul, ↓reduceIte, Nat.reduceEqDiff, Nat.reduceLT, Nat.reduceAdd, Nat.reduceLeDiff, reduceCtorEq, goInt, pairs, isConst, TI.isAgg, splice, boxS, Edp, dpv, Nat.beq_eq, ZV.val, List.any_cons, List.any_nil]; rfl⟩ ?_
    rintro m f σ' ⟨rfl, i, hib, hm, f13, f5⟩ hf
    have f11 := hf 11 (by decide) (notMem_wr (by kernel_rfl))
    have f12 := hf 12 (by decide) (notMem_wr (by kernel_rfl))
    simp (disch := first | assumption | simp) only [↓sbD, sbU, tyB, Nat.reduceMul, Nat.reduceSub, Int.reduceEq, Int.reduceLT, Int.reduceLE, Int.reduceNe, Nat.reduceBneDiff, Nat.reduceBEq, decide_false, gt_iff_lt, Bool.or_self, Bool.false_eq_true, Nat.mul_one, Nat.one_mul, Nat.zero_mul, ↓reduceIte, Nat.reduceEqDiff, Nat.reduceLT, Nat.reduceAdd, Nat.reduceLeDiff, reduceCtorEq, goInt, pairs, isConst, TI.isAgg, splice, boxS, Edp, dpv, Nat.beq_eq, ZV.val, List.any_cons, List.any_nil] at f11 f12
    clear hf
    by_cases hi : (i : Int) < (b.size : Int)
    · have hi' : i < b.size := by omega
      have hlt : beF b i < 16777216 := by
        have := beF_lt b i
        have h3 : 256 ^ i ≤ 256 ^ 3 := Nat.pow_le_pow_right (by omega) (by omega)
        omega
      have hw := wrap_suc (n := i) (by omega)
      have hbt : bt b i < 256 := bt_lt b i
      have hw2 : IntKind.i64.wrap ((bt b i : Nat) : Int) = ((bt b i : Nat) : Int) := wrap64 ⟨by omega, by omega⟩
      simp (disch := first | assumption | simp) only [↓sbD, sbU, tyB, Nat.reduceMul, Nat.reduceSub, Int.reduceEq, Int.reduceLT, Int.reduceLE, Int.reduceNe, Nat.reduceBneDiff, Nat.reduceBEq, decide_false, gt_iff_lt, Bool.or_self, Bool.false_eq_true, Nat.mul_one, Nat.one_mul, Nat.zero_mul, ↓reduceIte, Nat.reduceEqDiff, Nat.reduceLT, Nat.reduceAdd, Nat.reduceLeDiff, reduceCtorEq, goInt, pairs, isConst, TI.isAgg, splice, boxS, Edp, dpv, Nat.beq_eq, ZV.val, List.any_cons, List.any_nil, f5, f11, f12, f13, hi, bytes_get hi', shl8 hlt, hw2, or8 hlt hbt, hw]
      exact ⟨_, m - 1, _, rfl, by omega, Le.refl _, rfl, i + 1, by omega, by omega, by simp (disch := first | assumption | simp) only [↓sbD, sbU, tyB, Nat.reduceMul, Nat.reduceSub, Int.reduceEq, Int.reduceLT, Int.reduceLE, Int.reduceNe, Nat.reduceBneDiff, Nat.reduceBEq, decide_false, gt_iff_lt, Bool.or_self, Bool.false_eq_true, Nat.mul_one, Nat.one_mul, Nat.zero_mul, ↓reduceIte, Nat.reduceEqDiff, Nat.reduceLT, Nat.reduceAdd, Nat.reduceLeDiff, reduceCtorEq, goInt, pairs, isConst, TI.isAgg, splice, boxS, Edp, dpv, Nat.beq_eq, ZV.val, List.any_cons, List.any_nil], by simp (disch := first | assumption | simp) only [↓sbD, sbU, tyB, Nat.reduceMul, Nat.reduceSub, Int.reduceEq, Int.reduceLT, Int.reduceLE, Int.reduceNe, Nat.reduceBneDiff, Nat.reduceBEq, decide_false, gt_iff_lt, Bool.or_self, Bool.false_eq_true, Nat.mul_one, Nat.one_mul, Nat.zero_mul, ↓reduceIte, Nat.reduceEqDiff, Nat.reduceLT, Nat.reduceAdd, Nat.reduceLeDiff, reduceCtorEq, goInt, pairs, isConst, TI.isAgg, splice, boxS, Edp, dpv, Nat.beq_eq, ZV.val, List.any_cons, List.any_nil]; rfl⟩
    · obtain rfl : i = b.size := by omega
      simp (disch := first | assumption | simp) only [↓sbD, sbU, tyB, Nat.reduceMul, Nat.reduceSub, Int.reduceEq, Int.reduceLT, Int.reduceLE, Int.reduceNe, Nat.reduceBneDiff, Nat.reduceBEq, decide_false, gt_iff_lt, Bool.or_self, Bool.false_eq_true, Nat.mul_one, Nat.one_mul, Nat.zero_mul, ↓reduceIte, Nat.reduceEqDiff, Nat.reduceLT, Nat.reduceAdd, Nat.reduceLeDiff, reduceCtorEq, goInt, pairs, isConst, TI.isAgg, splice, boxS, Edp, dpv, Nat.beq_eq, ZV.val, List.any_cons, List.any_nil, f5, f11, f12, f13, hi]
      refine downS_le (Le.new hd) (hok _ q (by unfold numR; rw [hb]) σ1 k1 i1)
  · simp (disch := first | assumption | simp) only [↓sbD, sbU, tyB, Nat.reduceMul, Nat.reduceSub, Int.reduceEq, Int.reduceLT, Int.reduceLE, Int.reduceNe, Nat.reduceBneDiff, Nat.reduceBEq, decide_false, gt_iff_lt, Bool.or_self, Bool.false_eq_true, Nat.mul_one, Nat.one_mul, Nat.zero_mul, ↓reduceIte, Nat.reduceEqDiff, Nat.reduceLT, Nat.reduceAdd, Nat.reduceLeDiff, reduceCtorEq, goInt, pairs, isConst, TI.isAgg, splice, boxS, Edp, dpv, Nat.beq_eq, ZV.val, List.any_cons, List.any_nil]
    refine conv_by fun d hd => ?_
    simp (disch := first | assumption | simp) only [↓sbD, sbU, tyB, Nat.reduceMul, Nat.reduceSub, Int.reduceEq, Int.reduceLT, Int.reduceLE, Int.reduceNe, Nat.reduceBneDiff, Nat.reduceBEq, decide_false, gt_iff_lt, Bool.or_self, Bool.false_eq_true, Nat.mul_one, Nat.one_mul, Nat.zero_mul, ↓reduceIte, Nat.reduceEqDiff, Nat.reduceLT, Nat.reduceAdd, Nat.reduceLeDiff, reduceCtorEq, goInt, pairs, isConst, TI.isAgg, splice, boxS, Edp, dpv, Nat.beq_eq, ZV.val, List.any_cons, List.any_nil]
    have h0 : ((emp.size : Nat) : Int) = 0 := rfl
    refine S_loop (fun m f σ' => σ' = σ1.set d (.cells (bytesOf emp) true 1) ∧ f 13 = .int .i64 0 ∧ f 5 = .int .i64 0) 0 (Le.refl _) ⟨rfl, by simp (disch := first | assumption | simp) only [↓sbD, sbU, tyB, Nat.reduceMul, Nat.reduceSub, Int.reduceEq, Int.reduceLT, Int.reduceLE, Int.reduceNe, Nat.reduceBneDiff, Nat.reduceBEq, decide_false, gt_iff_lt, Bool.or_self, Bool.false_eq_true, Nat.mul_one, Nat.one_mul, Nat.zero_mul, ↓reduceIte, Nat.reduceEqDiff, Nat.reduceLT, Nat.reduceAdd, Nat.reduceLeDiff, reduceCtorEq, goInt, pairs, isConst, TI.isAgg, splice, boxS, Edp, dpv, Nat.beq_eq, ZV.val, List.any_cons, List.any_nil], by simp (disch := first | assumption | simp) only [↓sbD, sbU, tyB, Nat.reduceMul, Nat.reduceSub, Int.reduceEq, Int.reduceLT, Int.reduceLE, Int.reduceNe, Nat.reduceBneDiff, Nat.reduceBEq, decide_false, gt_iff_lt, Bool.or_self, Bool.false_eq_true, Nat.mul_one, Nat.one_mul, Nat.zero_mul, ↓reduceIte, Nat.reduceEqDiff, Nat.reduceLT, Nat.reduceAdd, Nat.reduceLeDiff, reduceCtorEq, goInt, pairs, isConst, TI.isAgg, splice, boxS, Edp, dpv, Nat.beq_eq, ZV.val, List.any_cons, List.any_nil]⟩ ?_
    rintro m f σ' ⟨rfl, f13, f5⟩ hf
    have f12 := hf 12 (by decide) (notMem_wr (by kernel_rfl))
    simp (disch := first | assumption | simp) only [↓sbD, sbU, tyB, Nat.reduceMul, Nat.reduceSub, Int.reduceEq, Int.reduceLT, Int.reduceLE, Int.reduceNe, Nat.reduceBneDiff, Nat.reduceBEq, decide_false, gt_iff_lt, Bool.or_self, Bool.false_eq_true, Nat.mul_one, Nat.one_mul, Nat.zero_mul, ↓reduceIte, Nat.reduceEqDiff, Nat.reduceLT, Nat.reduceAdd, Nat.reduceLeDiff, reduceCtorEq, goInt, pairs, isConst, TI.isAgg, splice, boxS, Edp, dpv, Nat.beq_eq, ZV.val, List.any_cons, List.any_nil] at f12
    clear hf
    simp (disch := first | assumption | simp) only [↓sbD, sbU, tyB, Nat.reduceMul, Nat.reduceSub, Int.reduceEq, Int.reduceLT, Int.reduceLE, Int.reduceNe, Nat.reduceBneDiff, Nat.reduceBEq, decide_false, gt_iff_lt, Bool.or_self, Bool.false_eq_true, Nat.mul_one, Nat.one_mul, Nat.zero_mul, ↓reduceIte, Nat.reduceEqDiff, Nat.reduceLT, Nat.reduceAdd, Nat.reduceLeDiff, reduceCtorEq, goInt, pairs, isConst, TI.isAgg, splice, boxS, Edp, dpv, Nat.beq_eq, ZV.val, List.any_cons, List.any_nil, f5, f12, f13, h0]
    exact downS_le (Le.new hd) (hbad e q (by unfold numR; rw [hb]) σ1 k1 i1)
end
end Go.Proofs.YtccimdfmddomaaaDoor.AbsA
